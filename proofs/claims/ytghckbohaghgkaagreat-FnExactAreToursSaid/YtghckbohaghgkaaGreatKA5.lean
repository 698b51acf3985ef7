/-
  Texts of a proof, one behind another: Dw41, Hv1, Hv2, Hv3, ArIn, Dw25, Dw45, Same, Dw26, Dw27, Dw46, Dw47, Hs1, Dw55, LwT, LwT2, OpensT, LawAreTours.
-/
import Derived.Lib.SliceRun
import Derived.Deep.LoopGhost
import Derived.Test.YtghckbohaghgkaaGreatKA4
set_option linter.all false
/-
  Sides of lines; where a point is of a polygon.
-/
namespace Go.Proofs.YtghckbohaghgkaaGreat.DW
open Go.RowKit
/-- The side of three points. -/
noncomputable def sdP (p q r : DP) : Int := sgnO (subO (mulO (subO (rdO q.1) (rdO p.1)) (subO (rdO r.2) (rdO p.2))) (mulO (subO (rdO q.2) (rdO p.2)) (subO (rdO r.1) (rdO p.1))))
theorem side_fn (p q r : DP) (hp : okPt p = true) (hq : okPt q = true) (hr : okPt r = true) : Fn Tryz.prog 173 [⟨tPoint, p⟩, ⟨tPoint, q⟩, ⟨tPoint, r⟩] false [⟨.int, sdP p q r⟩] := by
  obtain ⟨p1, p2⟩ := Bool.and_eq_true_iff.1 (show (okR p.1 && okR p.2) = true from hp)
  obtain ⟨q1, q2⟩ := Bool.and_eq_true_iff.1 (show (okR q.1 && okR q.2) = true from hq)
  obtain ⟨r1, r2⟩ := Bool.and_eq_true_iff.1 (show (okR r.1 && okR r.2) = true from hr)
  have c1 := ratSub_fn (rdO q.1) (rdO p.1) (okO_rdO _) (okO_rdO _)
  have c2 := ratSub_fn (rdO r.2) (rdO p.2) (okO_rdO _) (okO_rdO _)
  have c3 := ratMul_fn _ _ (okO_sub (rdO q.1) (rdO p.1)) (okO_sub (rdO r.2) (rdO p.2))
  have c4 := ratSub_fn (rdO q.2) (rdO p.2) (okO_rdO _) (okO_rdO _)
  have c5 := ratSub_fn (rdO r.1) (rdO p.1) (okO_rdO _) (okO_rdO _)
  have c6 := ratMul_fn _ _ (okO_sub (rdO q.2) (rdO p.2)) (okO_sub (rdO r.1) (rdO p.1))
  have c7 := ratSub_fn (mulO (subO (rdO q.1) (rdO p.1)) (subO (rdO r.2) (rdO p.2))) (mulO (subO (rdO q.2) (rdO p.2)) (subO (rdO r.1) (rdO p.1))) (okO_mul _ _) (okO_mul _ _)
  have c8 := ratSign_fn (subO (mulO (subO (rdO q.1) (rdO p.1)) (subO (rdO r.2) (rdO p.2))) (mulO (subO (rdO q.2) (rdO p.2)) (subO (rdO r.1) (rdO p.1))))
  rw [okR_oD p1, okR_oD q1] at c1
  rw [okR_oD p2, okR_oD r2] at c2
  rw [okR_oD p2, okR_oD q2] at c4
  rw [okR_oD p1, okR_oD r1] at c5
  unfold sdP
  refine fn_enter tabOK mixes Tryz.func173 rfl rfl _ Tryz.ntmps173 _ Tryz.results173 (by simp) fun hwf => ?_
  try simp (config := { maxSteps := 10000000 }) only [go_sem]
  repeat (refine And.intro (by first | omega | (constructor <;> omega) | kernel_rfl) ?_)
  refine CallW.mk (c1) ?_
  try simp (config := { maxSteps := 10000000 }) only [go_sem]
  repeat (refine And.intro (by first | omega | (constructor <;> omega) | kernel_rfl) ?_)
  refine CallW.mk (c2) ?_
  try simp (config := { maxSteps := 10000000 }) only [go_sem]
  repeat (refine And.intro (by first | omega | (constructor <;> omega) | kernel_rfl) ?_)
  refine CallW.mk (c3) ?_
  try simp (config := { maxSteps := 10000000 }) only [go_sem]
  repeat (refine And.intro (by first | omega | (constructor <;> omega) | kernel_rfl) ?_)
  refine CallW.mk (c4) ?_
  try simp (config := { maxSteps := 10000000 }) only [go_sem]
  repeat (refine And.intro (by first | omega | (constructor <;> omega) | kernel_rfl) ?_)
  refine CallW.mk (c5) ?_
  try simp (config := { maxSteps := 10000000 }) only [go_sem]
  repeat (refine And.intro (by first | omega | (constructor <;> omega) | kernel_rfl) ?_)
  refine CallW.mk (c6) ?_
  try simp (config := { maxSteps := 10000000 }) only [go_sem]
  repeat (refine And.intro (by first | omega | (constructor <;> omega) | kernel_rfl) ?_)
  refine CallW.mk (c7) ?_
  try simp (config := { maxSteps := 10000000 }) only [go_sem]
  repeat (refine And.intro (by first | omega | (constructor <;> omega) | kernel_rfl) ?_)
  refine CallW.mk (c8) ?_
  try simp (config := { maxSteps := 10000000 }) only [go_sem]
  all_goals repeat (refine And.intro (by first | omega | (constructor <;> omega) | kernel_rfl) ?_)
  all_goals first | kernel_rfl | omega | rfl
theorem specSide_fn (p q r : DP) : Fn Tryz.prog 76 [⟨tPoint, p⟩, ⟨tPoint, q⟩, ⟨tPoint, r⟩] false [⟨.int, sdP p q r⟩] := by
  have c1 := specRatSub_fn q.1 p.1
  have c2 := specRatSub_fn r.2 p.2
  have c3 := specRatMul_fn (oD (subO (rdO q.1) (rdO p.1))) (oD (subO (rdO r.2) (rdO p.2)))
  have c4 := specRatSub_fn q.2 p.2
  have c5 := specRatSub_fn r.1 p.1
  have c6 := specRatMul_fn (oD (subO (rdO q.2) (rdO p.2))) (oD (subO (rdO r.1) (rdO p.1)))
  have c7 := specRatSub_fn (oD (mulO (subO (rdO q.1) (rdO p.1)) (subO (rdO r.2) (rdO p.2)))) (oD (mulO (subO (rdO q.2) (rdO p.2)) (subO (rdO r.1) (rdO p.1))))
  have c8 := specRatSign_fn (oD (subO (mulO (subO (rdO q.1) (rdO p.1)) (subO (rdO r.2) (rdO p.2))) (mulO (subO (rdO q.2) (rdO p.2)) (subO (rdO r.1) (rdO p.1)))))
  rw [rdO_oD (okO_sub _ _), rdO_oD (okO_sub _ _)] at c3 c6
  rw [rdO_oD (okO_mul _ _), rdO_oD (okO_mul _ _)] at c7
  rw [rdO_oD (okO_sub _ _)] at c8
  unfold sdP
  refine fn_enter tabOK mixes Tryz.func76 rfl rfl _ Tryz.ntmps76 _ Tryz.results76 (by simp) fun hwf => ?_
  try simp (config := { maxSteps := 10000000 }) only [go_sem]
  repeat (refine And.intro (by first | omega | (constructor <;> omega) | kernel_rfl) ?_)
  refine CallW.mk (c1) ?_
  try simp (config := { maxSteps := 10000000 }) only [go_sem]
  repeat (refine And.intro (by first | omega | (constructor <;> omega) | kernel_rfl) ?_)
  refine CallW.mk (c2) ?_
  try simp (config := { maxSteps := 10000000 }) only [go_sem]
  repeat (refine And.intro (by first | omega | (constructor <;> omega) | kernel_rfl) ?_)
  refine CallW.mk (c3) ?_
  try simp (config := { maxSteps := 10000000 }) only [go_sem]
  repeat (refine And.intro (by first | omega | (constructor <;> omega) | kernel_rfl) ?_)
  refine CallW.mk (c4) ?_
  try simp (config := { maxSteps := 10000000 }) only [go_sem]
  repeat (refine And.intro (by first | omega | (constructor <;> omega) | kernel_rfl) ?_)
  refine CallW.mk (c5) ?_
  try simp (config := { maxSteps := 10000000 }) only [go_sem]
  repeat (refine And.intro (by first | omega | (constructor <;> omega) | kernel_rfl) ?_)
  refine CallW.mk (c6) ?_
  try simp (config := { maxSteps := 10000000 }) only [go_sem]
  repeat (refine And.intro (by first | omega | (constructor <;> omega) | kernel_rfl) ?_)
  refine CallW.mk (c7) ?_
  try simp (config := { maxSteps := 10000000 }) only [go_sem]
  repeat (refine And.intro (by first | omega | (constructor <;> omega) | kernel_rfl) ?_)
  refine CallW.mk (c8) ?_
  try simp (config := { maxSteps := 10000000 }) only [go_sem]
  all_goals repeat (refine And.intro (by first | omega | (constructor <;> omega) | kernel_rfl) ?_)
  all_goals first | kernel_rfl | omega | rfl
/-- A vector as a point. -/
def ptV (v : DV) : DP := (ratI v.1, ratI v.2)
theorem PointOfI_fn (v : DV) : Fn Tryz.prog 212 [⟨tVec, v⟩] true [⟨tPoint, ptV v⟩] := by
  have c1 := ratInt_fn v.1
  have c2 := ratInt_fn v.2
  unfold ptV
  refine fn_enter tabOK mixes Tryz.func212 rfl rfl _ Tryz.ntmps212 _ Tryz.results212 (by simp) fun hwf => ?_
  try simp (config := { maxSteps := 10000000 }) only [go_sem]
  repeat (refine And.intro (by first | omega | (constructor <;> omega) | kernel_rfl) ?_)
  refine CallW.mk (c1) ?_
  try simp (config := { maxSteps := 10000000 }) only [go_sem]
  repeat (refine And.intro (by first | omega | (constructor <;> omega) | kernel_rfl) ?_)
  refine CallW.mk (c2) ?_
  try simp (config := { maxSteps := 10000000 }) only [go_sem]
  all_goals repeat (refine And.intro (by first | omega | (constructor <;> omega) | kernel_rfl) ?_)
  all_goals first | kernel_rfl | omega | rfl
theorem PointOfS_fn (v : DV) : Fn Tryz.prog 77 [⟨tVec, v⟩] true [⟨tPoint, ptV v⟩] := by
  have c1 := RatFromInt_fn v.1
  have c2 := RatFromInt_fn v.2
  unfold ptV
  refine fn_enter tabOK mixes Tryz.func77 rfl rfl _ Tryz.ntmps77 _ Tryz.results77 (by simp) fun hwf => ?_
  try simp (config := { maxSteps := 10000000 }) only [go_sem]
  repeat (refine And.intro (by first | omega | (constructor <;> omega) | kernel_rfl) ?_)
  refine CallW.mk (c1) ?_
  try simp (config := { maxSteps := 10000000 }) only [go_sem]
  repeat (refine And.intro (by first | omega | (constructor <;> omega) | kernel_rfl) ?_)
  refine CallW.mk (c2) ?_
  try simp (config := { maxSteps := 10000000 }) only [go_sem]
  all_goals repeat (refine And.intro (by first | omega | (constructor <;> omega) | kernel_rfl) ?_)
  all_goals first | kernel_rfl | omega | rfl
theorem okR_ratI {n : Int} (h1 : -1000 ≤ n) (h2 : n ≤ 1000) : okR (ratI n) = true := by
  have ho : okO (some ((n : Int) : Rat)) := by
    intro q hq; injection hq with hq; subst hq
    exact ⟨Nat.le_trans (nl_small (n := n.natAbs) (by omega)) (by decide), Nat.le_trans (nl_small (n := 1) (by decide)) (by decide)⟩
  rw [show ratI n = oD (some ((n : Int) : Rat)) from ratI_eq n]
  unfold okR
  rw [rdO_oD ho]; rfl
theorem okPt_ptV {v : DV} (h : okV v = true) : okPt (ptV v) = true := by
  obtain ⟨b1, b2, b3, b4⟩ := okV_b h
  show (okR (ratI v.1) && okR (ratI v.2)) = true
  rw [okR_ratI b1 b2, okR_ratI b3 b4]; rfl
def mapp (l : List DV) (i : Nat) : List DP := (l.take i).map ptV
theorem mapp_step {l : List DV} {i : Nat} (h : i < l.length) : mapp l (i + 1) = mapp l i ++ [ptV (nth (t := tVec) l i)] := by
  unfold mapp
  rw [List.take_succ_eq_append_getElem h, nth_lt h, List.map_append]
  rfl
theorem mapp_len {l : List DV} {i : Nat} (h : i ≤ l.length) : (mapp l i).length = i := by
  unfold mapp
  rw [List.length_map, List.length_take]; omega
theorem mapp_all {l : List DV} {i : Nat} (h : l.length ≤ i) : mapp l i = l.map ptV := by
  unfold mapp
  rw [List.take_of_length_le h]
theorem pointsOf_fn (l : List DV) (hn : l.length ≤ 1048576) : Fn Tryz.prog 172 [⟨.slice tVec, l⟩] true [⟨.slice tPoint, l.map ptV⟩] := by
  refine fn_enter tabOK mixes Tryz.func172 rfl rfl _ Tryz.ntmps172 _ Tryz.results172 (by simp) fun hwf => ?_
  try simp (config := { maxSteps := 10000000 }) only [go_sem]
  refine LoopG.intro _ _ _ (fun i : Nat => ⟨[(3, .row 0 0), (7, .sl tVec l), (8, .sc (.int .i64 l.length)), (9, .sc (.int .i64 i))], [(0, .row 42 tPoint 0 true (mapp l i))]⟩) (fun i => i ≤ l.length) (fun i => l.length - i) 0 ?_ (Nat.zero_le _) ?_
  · refine Wk.mk [] ?_
    try simp (config := { maxSteps := 10000000 }) only [go_sem]
    try (and_intros <;> first | rfl | omega | exact ⟨_, rfl⟩)
    all_goals (first | exact ⟨rfl, rfl⟩ | rfl)
  · rintro i hi
    try simp (config := { maxSteps := 10000000 }) only [go_sem]
    refine CondW_dec (fun hA => ?_) (fun hA => ?_)
    · have hlt : i < l.length := by omega
      have hml := mapp_len (l := l) (i := i) (by omega)
      have e := mapp_step hlt
      have c2 := PointOfI_fn (nth (t := tVec) l i)
      try simp (config := { maxSteps := 10000000 }) only [go_sem]
      repeat (refine And.intro (by first | omega | (constructor <;> omega) | kernel_rfl) ?_)
      repeat (refine And.intro (by first | omega | (constructor <;> omega) | kernel_rfl) ?_)
      refine CallW.mk (c2) ?_
      try simp (config := { maxSteps := 10000000 }) only [go_sem]
      try simp (config := { maxSteps := 10000000 }) only [go_sem, hml]
      repeat (refine And.intro (by first | omega | (constructor <;> omega) | kernel_rfl) ?_)
      refine LoopK.mk (i + 1) ?_ (by omega) (by omega)
      rw [e]
      refine Wk.mk [] ?_
      try simp (config := { maxSteps := 10000000 }) only [go_sem]
      try (and_intros <;> first | rfl | omega | exact ⟨_, rfl⟩)
      all_goals (first | exact ⟨by omega, rfl⟩ | exact ⟨rfl, rfl⟩)
    · rw [mapp_all (by omega)]
      try simp (config := { maxSteps := 10000000 }) only [go_sem]
/-- The least side of a point, of the first i edges. -/
noncomputable def cntI (l : List DV) (p : DP) : Nat → Int
  | 0 => 1
  | i + 1 => min (cntI l p i) (sdP (ptV (nth (t := tVec) l i)) (ptV (nth (t := tVec) l (nxt l.length i).toNat)) p)
theorem nth_ptV {l : List DV} {i : Nat} (h : i < l.length) : nth (t := tPoint) (l.map ptV) i = ptV (nth (t := tVec) l i) := by
  rw [nth_lt (t := tVec) h, nth_lt (t := tPoint) (l := l.map ptV) (by rw [List.length_map]; exact h), List.getElem_map]
theorem contains_fn (l : List DV) (p : DP) (hl : ∀ v ∈ l, okV v = true) (hn : l.length ≤ 1048576) (hp : okPt p = true) : Fn Tryz.prog 127 [⟨.slice tVec, l⟩, ⟨tPoint, p⟩] false [⟨.int, cntI l p l.length⟩] := by
  have c1 := pointsOf_fn l hn
  have hml : (l.map ptV).length = l.length := List.length_map ..
  refine fn_enter tabOK mixes Tryz.func127 rfl rfl _ Tryz.ntmps127 _ Tryz.results127 (by simp) fun hwf => ?_
  try simp (config := { maxSteps := 10000000 }) only [go_sem]
  repeat (refine And.intro (by first | omega | (constructor <;> omega) | kernel_rfl) ?_)
  refine CallW.mk (c1) ?_
  try simp (config := { maxSteps := 10000000 }) only [go_sem]
  try simp (config := { maxSteps := 10000000 }) only [go_sem, hml]
  refine LoopG.intro _ _ _ (fun i : Nat => ⟨[(3, .ptr 0 0), (5, .sl tPoint (l.map ptV)), (6, .sc (.int .i64 (cntI l p i))), (11, .sl tPoint (l.map ptV)), (12, .sc (.int .i64 l.length)), (13, .sc (.int .i64 i))], [(0, .box (cel tPoint p))]⟩) (fun i => i ≤ l.length) (fun i => l.length - i) 0 ?_ (Nat.zero_le _) ?_
  · refine Wk.mk [] ?_
    try simp (config := { maxSteps := 10000000 }) only [go_sem]
    try (and_intros <;> first | rfl | omega | exact ⟨_, rfl⟩)
    trace_state
  · rintro i hi
    try simp (config := { maxSteps := 10000000 }) only [go_sem]
    refine CondW_dec (fun hA => ?_) (fun hA => ?_)
    · have hlt : i < l.length := by omega
      have hr := nxt_rng (n := l.length) (i := i) (by omega)
      have hr2 : (nxt l.length i).toNat < l.length := by omega
      have c2 := side_fn (ptV (nth (t := tVec) l i)) (ptV (nth (t := tVec) l (nxt l.length i).toNat)) p (okPt_ptV (hl _ (nth_mem hlt))) (okPt_ptV (hl _ (nth_mem hr2))) hp
      rw [← nth_ptV hlt, ← nth_ptV hr2] at c2
      unfold nxt at hr hr2 c2
      try simp (config := { maxSteps := 10000000 }) only [go_sem, hml]
      repeat (refine And.intro (by first | omega | (constructor <;> omega) | kernel_rfl) ?_)
      refine RemW.pos (by omega) (by omega) ?_
      try simp (config := { maxSteps := 10000000 }) only [go_sem, hml]
      repeat (refine And.intro (by first | omega | (constructor <;> omega) | kernel_rfl) ?_)
      refine CallW.mk (c2) ?_
      try simp (config := { maxSteps := 10000000 }) only [go_sem]
      repeat (refine And.intro (by first | omega | (constructor <;> omega) | kernel_rfl) ?_)
      have hst : cntI l p (i + 1) = min (cntI l p i) (sdP (nth (t := tPoint) (l.map ptV) i) (nth (t := tPoint) (l.map ptV) (((i : Int) + 1) % (l.length : Int)).toNat) p) := by
        rw [nth_ptV hlt, nth_ptV hr2]; rfl
      refine LoopK.mk (i + 1) ?_ (by omega) (by omega)
      rw [hst]
      refine Wk.mk [] ?_
      try simp (config := { maxSteps := 10000000 }) only [go_sem]
      try (and_intros <;> first | rfl | omega | exact ⟨_, rfl⟩)
    · rw [show l.length = i by omega]
      try simp (config := { maxSteps := 10000000 }) only [go_sem]
      all_goals repeat (refine And.intro (by first | omega | (constructor <;> omega) | kernel_rfl) ?_)
      all_goals first | kernel_rfl | omega | rfl
end Go.Proofs.YtghckbohaghgkaaGreat.DW

/-
  Cross products; the chain along a sorted list bends to the left, and all its points lie left of each of its edges. No program here.
-/
namespace Go.Proofs.YtghckbohaghgkaaGreat.DW
open Go.RowKit
def crs (u v : DV) : Int := u.1 * v.2 - u.2 * v.1
def dt (u v : DV) : Int := u.1 * v.1 + u.2 * v.2
def sbV (a b : DV) : DV := (a.1 - b.1, a.2 - b.2)
/-- To the right, or straight up. -/
def Rt (d : DV) : Prop := 0 < d.1 ∨ d.1 = 0 ∧ 0 < d.2
theorem Rt_of {a b : DV} (h : ltV a b) : Rt (sbV b a) := by unfold ltV at h; unfold Rt sbV; simp only; omega
theorem crs_nn {u v w : DV} (hu : Rt u) (hv : Rt v) (hw : Rt w) (h1 : 0 ≤ crs u v) (h2 : 0 ≤ crs v w) : 0 ≤ crs u w := by
  have key : v.1 * crs u w = u.1 * crs v w + w.1 * crs u v := by unfold crs; grind
  have u1 : 0 ≤ u.1 := by unfold Rt at hu; omega
  have w1 : 0 ≤ w.1 := by unfold Rt at hw; omega
  rcases hv with hv | ⟨hv, hv2⟩
  · by_cases hc : 0 ≤ crs u w
    · exact hc
    · have h3 := Int.mul_neg_of_pos_of_neg hv (show crs u w < 0 by omega)
      have h4 := Int.mul_nonneg u1 h2
      have h5 := Int.mul_nonneg w1 h1
      omega
  · have e : crs v w = -(v.2 * w.1) := by unfold crs; rw [hv]; grind
    have hw0 : w.1 = 0 := by
      by_cases hp : 0 < w.1
      · have := Int.mul_pos hv2 hp
        omega
      · omega
    have hw2 : 0 < w.2 := by unfold Rt at hw; omega
    have e2 : crs u w = u.1 * w.2 := by unfold crs; rw [hw0]; grind
    rw [e2]
    exact Int.mul_nonneg u1 (Int.le_of_lt hw2)
theorem crs_sw (u v : DV) : crs u v = - crs v u := by unfold crs; grind
theorem crs_pn {u v w : DV} (hu : Rt u) (hv : Rt v) (hw : Rt w) (h1 : 0 < crs u v) (h2 : 0 ≤ crs v w) : 0 < crs u w := by
  have h3 := crs_nn hu hv hw (Int.le_of_lt h1) h2
  by_cases hc : crs u w = 0
  · have h4 := crs_nn hv hw hu h2 (by rw [crs_sw]; omega)
    rw [crs_sw] at h4
    omega
  · omega
theorem crs_np {u v w : DV} (hu : Rt u) (hv : Rt v) (hw : Rt w) (h1 : 0 ≤ crs u v) (h2 : 0 < crs v w) : 0 < crs u w := by
  have h3 := crs_nn hu hv hw h1 (Int.le_of_lt h2)
  by_cases hc : crs u w = 0
  · have h4 := crs_nn hw hu hv (by rw [crs_sw]; omega) h1
    rw [crs_sw] at h4
    omega
  · omega
theorem trn_crs (a b c : DV) : trn a b c = crs (sbV b a) (sbV c a) := rfl
theorem trn_crs2 (a b c : DV) : trn a b c = crs (sbV b a) (sbV c b) := by unfold trn crs sbV; grind
theorem trn_add (a b x y : DV) : trn a b y = crs (sbV b a) (sbV y x) + trn a b x := by unfold trn crs sbV; grind
theorem trn_aa (a b : DV) : trn a b a = 0 := by unfold trn; grind
theorem trn_bb (a b : DV) : trn a b b = 0 := by unfold trn; grind
/-- The edges of a chain, its last point first. -/
def edg : List DV → List (DV × DV)
  | b :: a :: l => (a, b) :: edg (a :: l)
  | _ => []
def dir (e : DV × DV) : DV := sbV e.2 e.1
theorem edg_cons {v b : DV} {l : List DV} : edg (v :: b :: l) = (b, v) :: edg (b :: l) := rfl
theorem edg_mem : ∀ {r : List DV} {e : DV × DV}, e ∈ edg r → e.1 ∈ r ∧ e.2 ∈ r
  | [], e, h => by simp [edg] at h
  | [a], e, h => by simp [edg] at h
  | b :: a :: l, e, h => by
    rw [edg_cons] at h
    rcases List.mem_cons.1 h with rfl | h
    · exact ⟨by simp, by simp⟩
    · obtain ⟨h1, h2⟩ := edg_mem h
      exact ⟨List.mem_cons_of_mem _ h1, List.mem_cons_of_mem _ h2⟩
/-- A chain of points, its last point first: it goes up, bends to the left; the points of P lie left of its edges, or on them. -/
structure ChOK (P : DV → Prop) (r : List DV) : Prop where
  desc : r.Pairwise (fun x y => ltV y x)
  cvx : (edg r).Pairwise (fun e f => 0 < crs (dir f) (dir e))
  low : ∀ e ∈ edg r, ∀ p, P p → 0 ≤ trn e.1 e.2 p
  str : ∀ e ∈ edg r, ∀ x ∈ r, x = e.1 ∨ x = e.2 ∨ 0 < trn e.1 e.2 x
  sub : ∀ x ∈ r, P x
theorem edg_lt : ∀ {r : List DV} {e : DV × DV}, r.Pairwise (fun x y => ltV y x) → e ∈ edg r → ltV e.1 e.2
  | [], e, _, h => by simp [edg] at h
  | [a], e, _, h => by simp [edg] at h
  | b :: a :: l, e, hd, h => by
    rw [edg_cons] at h
    rw [List.pairwise_cons] at hd
    rcases List.mem_cons.1 h with rfl | h
    · exact hd.1 a (by simp)
    · exact edg_lt hd.2 h
theorem ChOK.tail {P : DV → Prop} {b : DV} {l : List DV} (h : ChOK P (b :: l)) : ChOK P l := by
  have hd := (List.pairwise_cons.1 h.desc).2
  cases l with
  | nil => exact ⟨List.Pairwise.nil, List.Pairwise.nil, (fun e he => by simp [edg] at he), (fun e he => by simp [edg] at he), (fun x hx => by simp at hx)⟩
  | cons a l =>
    have hc := h.cvx
    rw [edg_cons] at hc
    exact ⟨hd, (List.pairwise_cons.1 hc).2, fun e he => h.low e (by rw [edg_cons]; exact List.mem_cons_of_mem _ he), fun e he x hx => h.str e (by rw [edg_cons]; exact List.mem_cons_of_mem _ he) x (List.mem_cons_of_mem _ hx), fun x hx => h.sub x (List.mem_cons_of_mem _ hx)⟩
/-- What taking points away leaves. -/
structure Popped (P : DV → Prop) (v : DV) (r : List DV) (b : DV) (l : List DV) : Prop where
  ok : ChOK P (b :: l)
  last : ∀ x, r.getLast? = some x → (b :: l).getLast? = some x
  stop : ∀ a l', l = a :: l' → 0 < trn a b v
  gone : (∃ l', r = b :: l') ∨ ∃ c, ltV b c ∧ P c ∧ trn b c v ≤ 0 ∧ ∀ p, P p → 0 ≤ trn b c p
theorem popD_ok {P : DV → Prop} {v : DV} : ∀ {r : List DV} {b0 : DV} {l0 : List DV}, r = b0 :: l0 → ChOK P r → ∃ b l, popD v r = b :: l ∧ Popped P v r b l
  | [], _, _, h, _ => by cases h
  | [a], _, _, _, hc => ⟨a, [], rfl, hc, fun x hx => hx, (fun a l' h => by cases h), .inl ⟨[], rfl⟩⟩
  | b :: a :: l, _, _, _, hc => by
    by_cases ht : trn a b v ≤ 0
    · obtain ⟨b', l', e, hp⟩ := popD_ok (v := v) (r := a :: l) rfl hc.tail
      refine ⟨b', l', by rw [popD, if_pos ht]; exact e, hp.ok, fun x hx => hp.last x (by rw [List.getLast?_cons_cons] at hx; exact hx), hp.stop, .inr ?_⟩
      rcases hp.gone with ⟨l2, h2⟩ | h2
      · injection h2 with h2 _
        subst h2
        exact ⟨b, (List.pairwise_cons.1 hc.desc).1 a (by simp), hc.sub b (by simp), ht, fun p hp => hc.low (a, b) (by rw [edg_cons]; simp) p hp⟩
      · exact h2
    · exact ⟨b, a :: l, by rw [popD, if_neg ht], hc, fun x hx => hx, (fun a' l' h => by injection h with h _; subst h; omega), .inl ⟨a :: l, rfl⟩⟩
/-- One more point, right of all. -/
theorem push_ok {P : DV → Prop} {v b m : DV} {r l : List DV} (hp : Popped P v r b l) (hv : ∀ p, P p → ltV p v) (hm : r.getLast? = some m) (hmin : ∀ p, P p → p = m ∨ ltV m p) (htop : ∀ t l', r = t :: l' → ∀ p, P p → p = t ∨ ltV p t) :
    ChOK (fun p => p = v ∨ P p) (v :: b :: l) := by
  have hb : P b := hp.ok.sub b (by simp)
  have hbv := hv b hb
  have rv := Rt_of hbv
  have hml := hp.last m hm
  -- points left of b
  have left : ∀ p, P p → ltV p b → 0 < trn b v p := by
    intro p hP hlt
    cases l with
    | nil =>
      simp at hml
      subst hml
      rcases hmin p hP with rfl | h
      · exact absurd hlt (ltV_irrefl _)
      · exact absurd hlt (ltV_asymm h)
    | cons a l' =>
      have h1 := hp.stop a l' rfl
      have h2 := hp.ok.low (a, b) (by rw [edg_cons]; simp) p hP
      have hab := (List.pairwise_cons.1 hp.ok.desc).1 a (by simp)
      rw [trn_crs2] at h1 h2
      have h3 : 0 ≤ crs (sbV b p) (sbV b a) := by
        have : crs (sbV b p) (sbV b a) = crs (sbV b a) (sbV p b) := by unfold crs sbV; grind
        rw [this]; exact h2
      have h4 := crs_np (Rt_of hlt) (Rt_of hab) rv h3 h1
      have : trn b v p = crs (sbV b p) (sbV v b) := by unfold trn crs sbV; grind
      rw [this]; exact h4
  have all : ∀ p, P p → 0 ≤ trn b v p := by
    intro p hP
    rcases ltV_tri p b with h | h | h
    · exact Int.le_of_lt (left p hP h)
    · subst h; rw [trn_aa]; exact Int.le_refl _
    · rcases hp.gone with ⟨l', hr⟩ | ⟨c, h1, h2, h3, h4⟩
      · rcases htop b l' hr p hP with rfl | h5
        · exact absurd h (ltV_irrefl _)
        · exact absurd h (ltV_asymm h5)
      · have h5 := h4 p hP
        rw [trn_crs] at h3 h5
        rw [trn_crs]
        exact crs_nn rv (Rt_of h1) (Rt_of h) (by rw [crs_sw]; omega) h5
  -- the old edges and the new one
  have bend : ∀ f ∈ edg (b :: l), 0 < crs (dir f) (sbV v b) := by
    intro f hf
    cases l with
    | nil => simp [edg] at hf
    | cons a l' =>
      have h1 := hp.stop a l' rfl
      rw [trn_crs2] at h1
      have hab := (List.pairwise_cons.1 hp.ok.desc).1 a (by simp)
      have hc := hp.ok.cvx
      rw [edg_cons] at hc hf
      rcases List.mem_cons.1 hf with rfl | hf
      · exact h1
      · have h2 := (List.pairwise_cons.1 hc).1 f hf
        have h3 := edg_lt (List.pairwise_cons.1 hp.ok.desc).2 hf
        exact crs_pn (Rt_of h3) (Rt_of hab) rv h2 (Int.le_of_lt h1)
  have oldv : ∀ f ∈ edg (b :: l), 0 < trn f.1 f.2 v := by
    intro f hf
    have h1 := bend f hf
    have h2 := hp.ok.low f hf b hb
    rw [trn_add f.1 f.2 b v]
    unfold dir at h1
    omega
  refine ⟨List.pairwise_cons.2 ⟨fun x hx => hv x (hp.ok.sub x hx), hp.ok.desc⟩, ?_, ?_, ?_, ?_⟩
  · rw [edg_cons]
    exact List.pairwise_cons.2 ⟨fun f hf => bend f hf, hp.ok.cvx⟩
  · intro e he p hP
    rw [edg_cons] at he
    rcases List.mem_cons.1 he with rfl | he2
    · rcases hP with rfl | hP
      · show 0 ≤ trn b p p; rw [trn_bb]; exact Int.le_refl _
      · exact all p hP
    · rcases hP with rfl | hP
      · exact Int.le_of_lt (oldv e he2)
      · exact hp.ok.low e he2 p hP
  · intro e he x hx
    rw [edg_cons] at he
    rcases List.mem_cons.1 he with rfl | he2
    · rcases List.mem_cons.1 hx with rfl | hx
      · exact .inr (.inl rfl)
      · rcases List.mem_cons.1 hx with rfl | hx
        · exact .inl rfl
        · exact .inr (.inr (left x (hp.ok.sub x (List.mem_cons_of_mem _ hx)) ((List.pairwise_cons.1 hp.ok.desc).1 x hx)))
    · rcases List.mem_cons.1 hx with rfl | hx
      · exact .inr (.inr (oldv e he2))
      · exact hp.ok.str e he2 x hx
  · intro x hx
    rcases List.mem_cons.1 hx with rfl | hx
    · exact .inl rfl
    · exact .inr (hp.ok.sub x hx)
/-- The chain along a sorted list. -/
theorem chR_ok : ∀ (n : Nat) {l : List DV}, l.length = n + 1 → l.Pairwise ltV →
    ∃ t r, chR l = t :: r ∧ (chR l).getLast? = l.head? ∧ l.getLast? = some t ∧ ChOK (fun p => p ∈ l) (chR l)
  | 0, l, hl, hs => by
    match l, hl with
    | [a], _ => exact ⟨a, [], rfl, rfl, rfl, ⟨List.pairwise_singleton _ _, List.Pairwise.nil, (fun e he => by simp [chR, popD, edg] at he), (fun e he => by simp [chR, popD, edg] at he), fun x hx => hx⟩⟩
  | n + 1, l, hl, hs => by
    obtain ⟨l', v, rfl⟩ : ∃ l' v, l = l' ++ [v] := ⟨l.dropLast, l.getLast (by intro h; rw [h] at hl; simp at hl), (List.dropLast_concat_getLast _).symm⟩
    have hl' : l'.length = n + 1 := by simp at hl; omega
    rw [List.pairwise_append] at hs
    obtain ⟨hs1, _, hs3⟩ := hs
    obtain ⟨t, r, e1, e2, e3, hc⟩ := chR_ok n hl' hs1
    have hst : chR (l' ++ [v]) = v :: popD v (chR l') := by unfold chR; rw [List.foldl_append]; rfl
    obtain ⟨b, q, e4, hp⟩ := popD_ok (v := v) e1 hc
    obtain ⟨m, l2, rfl⟩ : ∃ m l2, l' = m :: l2 := by
      cases l' with
      | nil => simp at hl'
      | cons m l2 => exact ⟨m, l2, rfl⟩
    have hlast : (chR (m :: l2)).getLast? = some m := e2
    have hpush := push_ok hp (fun p hpm => hs3 p hpm v (by simp)) hlast (fun p hpm => by
      rcases List.mem_cons.1 hpm with h | h
      · exact .inl h
      · exact .inr ((List.pairwise_cons.1 hs1).1 p h)) (fun t' l3 ht p hpm => by
      rw [e1] at ht
      injection ht with ht _
      subst ht
      have hgl : (m :: l2).getLast? = some t := e3
      obtain ⟨ys, hys⟩ := List.getLast?_eq_some_iff.1 hgl
      rw [hys] at hpm hs1
      rw [List.pairwise_append] at hs1
      rcases List.mem_append.1 hpm with h | h
      · exact .inr (hs1.2.2 p h t (by simp))
      · exact .inl (by simpa using h))
    refine ⟨v, popD v (chR (m :: l2)), hst, ?_, List.getLast?_concat, ?_⟩
    · rw [hst, e4, List.getLast?_cons_cons, hp.last m hlast]; rfl
    · rw [hst, e4]
      refine ⟨hpush.desc, hpush.cvx, fun e he p hpm => hpush.low e he p ?_, hpush.str, fun x hx => ?_⟩
      · rcases List.mem_append.1 hpm with h | h
        · exact .inr h
        · exact .inl (by simpa using h)
      · rcases hpush.sub x hx with rfl | h
        · simp
        · exact List.mem_append.2 (.inl h)
end Go.Proofs.YtghckbohaghgkaaGreat.DW

/-
  The hull of a sorted list: two chains make a polygon that bends to the left everywhere. No program here.
-/
namespace Go.Proofs.YtghckbohaghgkaaGreat.DW
open Go.RowKit
def ngV (v : DV) : DV := (-v.1, -v.2)
theorem ngV_ngV (v : DV) : ngV (ngV v) = v := by unfold ngV; simp
theorem trn_ng (a b c : DV) : trn (ngV a) (ngV b) (ngV c) = trn a b c := by unfold trn ngV; grind
theorem ltV_ng {a b : DV} : ltV (ngV a) (ngV b) ↔ ltV b a := by unfold ltV ngV; simp only; omega
theorem popD_ng (v : DV) : ∀ r : List DV, popD (ngV v) (r.map ngV) = (popD v r).map ngV
  | [] => rfl
  | [a] => rfl
  | b :: a :: l => by
    have ih := popD_ng v (a :: l)
    simp only [List.map_cons] at ih ⊢
    rw [popD, popD, trn_ng]
    split
    · exact ih
    · rfl
theorem chR_ng (l : List DV) : chR (l.map ngV) = (chR l).map ngV := by
  unfold chR
  have : ∀ (l s : List DV), (l.map ngV).foldl (fun c v => v :: popD v c) (s.map ngV) = (l.foldl (fun c v => v :: popD v c) s).map ngV := by
    intro l
    induction l with
    | nil => intro s; rfl
    | cons a l ih =>
      intro s
      rw [List.map_cons, List.foldl_cons, List.foldl_cons, popD_ng]
      exact ih (a :: popD a s)
  exact this l []
def ngE (e : DV × DV) : DV × DV := (ngV e.1, ngV e.2)
theorem edg_ng : ∀ r : List DV, edg (r.map ngV) = (edg r).map ngE
  | [] => rfl
  | [a] => rfl
  | b :: a :: l => by
    have ih := edg_ng (a :: l)
    simp only [List.map_cons] at ih ⊢
    rw [edg_cons, edg_cons, ih]; rfl
theorem edg_ng_mem {r : List DV} {e : DV × DV} (h : e ∈ edg r) : ngE e ∈ edg (r.map ngV) := by rw [edg_ng]; exact List.mem_map_of_mem h
theorem map_ng_ng (r : List DV) : (r.map ngV).map ngV = r := by
  rw [List.map_map, show (ngV ∘ ngV) = id from funext ngV_ngV, List.map_id]
/-- A point of a chain is its first one, its last one, or between two edges. -/
theorem inner_of {P : DV → Prop} {x : DV} : ∀ {r : List DV}, ChOK P r → x ∈ r → r.head? = some x ∨ r.getLast? = some x ∨ ∃ p q, (p, x) ∈ edg r ∧ (x, q) ∈ edg r ∧ 0 < crs (sbV x p) (sbV q x)
  | [], _, h => by simp at h
  | [a], _, h => by simp at h; subst h; exact .inl rfl
  | q :: y :: l, hc, h => by
    rcases List.mem_cons.1 h with rfl | h
    · exact .inl rfl
    · rcases inner_of hc.tail h with h1 | h1 | ⟨p, q', h1, h2, h3⟩
      · simp at h1
        subst h1
        cases l with
        | nil => exact .inr (.inl rfl)
        | cons p l =>
          have hcv := hc.cvx
          rw [edg_cons, edg_cons] at hcv
          refine .inr (.inr ⟨p, q, by rw [edg_cons, edg_cons]; simp, by rw [edg_cons]; simp, ?_⟩)
          exact (List.pairwise_cons.1 hcv).1 (p, y) (by simp)
      · exact .inr (.inl (by rw [List.getLast?_cons_cons]; exact h1))
      · exact .inr (.inr ⟨p, q', by rw [edg_cons]; exact List.mem_cons_of_mem _ h1, by rw [edg_cons]; exact List.mem_cons_of_mem _ h2, h3⟩)
/-- The inner points of one chain lie strictly left of the edges of the other. -/
theorem cross_str {P : DV → Prop} {R R' : List DV} (h : ChOK P R) (h' : ChOK (fun p => P (ngV p)) (R'.map ngV)) {x : DV} (hx : x ∈ R') :
    R'.head? = some x ∨ R'.getLast? = some x ∨ ∀ e ∈ edg R, 0 < trn e.1 e.2 x := by
  have hx' : ngV x ∈ R'.map ngV := List.mem_map_of_mem hx
  have inj : ∀ {a b : DV}, ngV a = ngV b → a = b := fun {a b} e => by rw [← ngV_ngV a, e, ngV_ngV]
  rcases inner_of h' hx' with h1 | h1 | ⟨p, q, h1, h2, h3⟩
  · rw [List.head?_map] at h1
    obtain ⟨a, ha, e⟩ := Option.map_eq_some_iff.1 h1
    exact .inl (by rw [ha, inj e])
  · rw [List.getLast?_map] at h1
    obtain ⟨a, ha, e⟩ := Option.map_eq_some_iff.1 h1
    exact .inr (.inl (by rw [ha, inj e]))
  · refine .inr (.inr fun e he => ?_)
    have hPp : P (ngV p) := h'.sub p (edg_mem h1).1
    have hPq : P (ngV q) := h'.sub q (edg_mem h2).2
    have hPx : P x := by have := h'.sub _ hx'; rw [ngV_ngV] at this; exact this
    have l1 := h.low e he _ hPp
    have l2 := h.low e he _ hPq
    have l3 := h.low e he _ hPx
    by_cases hz : trn e.1 e.2 x = 0
    · exfalso
      have hd := Rt_of (edg_lt h.desc he)
      have ha := Rt_of (edg_lt h'.desc h1)
      have hb := Rt_of (edg_lt h'.desc h2)
      rw [trn_add e.1 e.2 x, hz] at l1 l2
      have e1 : crs (sbV e.2 e.1) (sbV (ngV p) x) = crs (sbV e.2 e.1) (sbV (ngV x) p) := by unfold crs sbV ngV; grind
      have e2 : crs (sbV e.2 e.1) (sbV (ngV q) x) = crs (sbV q (ngV x)) (sbV e.2 e.1) := by unfold crs sbV ngV; grind
      rw [e1] at l1
      rw [e2] at l2
      have := crs_pn ha hb hd h3 (by show 0 ≤ crs (sbV q (ngV x)) (sbV e.2 e.1); omega)
      rw [crs_sw] at this
      simp only at this
      omega
    · omega
theorem edg_idx : ∀ {r : List DV} {i : Nat}, i + 1 < r.length → (nth (t := tVec) r (i + 1), nth (t := tVec) r i) ∈ edg r
  | [], i, h => by simp at h
  | [a], i, h => by simp at h
  | b :: a :: l, 0, h => by rw [edg_cons]; exact List.mem_cons_self
  | b :: a :: l, i + 1, h => by
    rw [edg_cons]
    refine List.mem_cons_of_mem _ ?_
    have := edg_idx (r := a :: l) (i := i) (by simp at h ⊢; omega)
    simpa [nth] using this
theorem nth_rev {r : List DV} {i : Nat} (h : i < r.length) : nth (t := tVec) r.reverse i = nth (t := tVec) r (r.length - 1 - i) := by
  rw [nth_lt (by rw [List.length_reverse]; exact h), nth_lt (by omega), List.getElem_reverse]
theorem nth_dl {r : List DV} {i : Nat} (h : i < r.length - 1) : nth (t := tVec) r.dropLast i = nth (t := tVec) r i := by
  rw [nth_lt (by rw [List.length_dropLast]; exact h), nth_lt (by omega), List.getElem_dropLast]
theorem nth_al {l m : List DV} {i : Nat} (h : i < l.length) : nth (t := tVec) (l ++ m) i = nth (t := tVec) l i := by
  rw [nth_lt (by rw [List.length_append]; omega), nth_lt h, List.getElem_append_left h]
theorem nth_ar {l m : List DV} {i : Nat} (h : l.length ≤ i) (h2 : i < l.length + m.length) : nth (t := tVec) (l ++ m) i = nth (t := tVec) m (i - l.length) := by
  rw [nth_lt (by rw [List.length_append]; omega), nth_lt (by omega), List.getElem_append_right h]
/-- A polygon that bends to the left, all the points of P on its left. -/
structure Cvx (P : DV → Prop) (H : List DV) : Prop where
  three : 3 ≤ H.length
  nodup : H.Nodup
  str : ∀ i, i < H.length → ∀ x ∈ H, x = nth (t := tVec) H i ∨ x = nth (t := tVec) H (nxt H.length i).toNat ∨ 0 < trn (nth (t := tVec) H i) (nth (t := tVec) H (nxt H.length i).toNat) x
  low : ∀ i, i < H.length → ∀ p, P p → 0 ≤ trn (nth (t := tVec) H i) (nth (t := tVec) H (nxt H.length i).toNat) p
  sub : ∀ x ∈ H, P x
theorem nxt_lt {n i : Nat} (h : i + 1 < n) : (nxt n i).toNat = i + 1 := by
  unfold nxt
  rw [Int.emod_eq_of_lt (by omega) (by omega)]; omega
theorem nxt_end {n i : Nat} (h : i + 1 = n) : (nxt n i).toNat = 0 := by
  unfold nxt
  rw [show ((i : Int) + 1) = (n : Int) by omega, Int.emod_self]; rfl
theorem col0 {d u v : DV} (hd : d ≠ (0, 0)) (h1 : crs d u = 0) (h2 : crs d v = 0) : crs u v = 0 := by
  have k1 : d.1 * crs u v = u.1 * crs d v - v.1 * crs d u := by unfold crs; grind
  have k2 : d.2 * crs u v = u.2 * crs d v - v.2 * crs d u := by unfold crs; grind
  rw [h1, h2, Int.mul_zero, Int.mul_zero, Int.sub_zero] at k1 k2
  rcases Int.mul_eq_zero.1 k1 with h | h
  · rcases Int.mul_eq_zero.1 k2 with h' | h'
    · exact absurd (Prod.ext h h') hd
    · exact h'
  · exact h
theorem nth_ap2 {l m : List DV} {x : DV} (k : Nat) (h : k = l.length) : nth (t := tVec) (l ++ x :: m) k = x := by
  subst h
  rw [nth_lt (by simp), List.getElem_append_right (Nat.le_refl _)]
  simp
theorem nth_last {r : List DV} {x : DV} (h : r.getLast? = some x) : nth (t := tVec) r (r.length - 1) = x := by
  obtain ⟨ys, rfl⟩ := List.getLast?_eq_some_iff.1 h
  rw [show (ys ++ [x]).length - 1 = ys.length by simp]
  exact nth_ap2 _ rfl
theorem nth_head {r : List DV} {x : DV} (h : r.head? = some x) : nth (t := tVec) r 0 = x := by
  cases r with
  | nil => simp at h
  | cons a r => simp at h; exact h
/-- Two chains between the first and the last of all points: the polygon. -/
theorem two_cvx {S R R' : List DV} {m M : DV} (hm : m ∈ S) (hM : M ∈ S) (hmM : ltV m M) (hR : ChOK (fun p => p ∈ S) R) (hR' : ChOK (fun p => ngV p ∈ S) (R'.map ngV)) (hh : R.head? = some M) (hl : R.getLast? = some m) (hh' : R'.head? = some m) (hl' : R'.getLast? = some M)
    (hn : ∃ a ∈ S, ∃ b ∈ S, ∃ c ∈ S, trn a b c ≠ 0) : Cvx (fun p => p ∈ S) (R.reverse.dropLast ++ R'.reverse.dropLast) := by
  have inj : ∀ {a b : DV}, ngV a = ngV b → a = b := fun {a b} e => by rw [← ngV_ngV a, e, ngV_ngV]
  have hne : m ≠ M := fun h => by subst h; exact ltV_irrefl _ hmM
  have k1 : 2 ≤ R.length := by
    match R, hh, hl with
    | [a], h1, h2 => simp at h1 h2; exact absurd (h2.symm.trans h1) hne
    | _ :: _ :: _, _, _ => simp
  have k2 : 2 ≤ R'.length := by
    match R', hh', hl' with
    | [a], h1, h2 => simp at h1 h2; exact absurd (h1.symm.trans h2) hne
    | _ :: _ :: _, _, _ => simp
  have mR : m ∈ R := List.mem_of_getLast? hl
  have MR : M ∈ R := List.mem_of_head? hh
  have mR' : m ∈ R' := List.mem_of_head? hh'
  have MR' : M ∈ R' := List.mem_of_getLast? hl'
  have hR2 : ChOK (fun p => ngV (ngV p) ∈ S) ((R.map ngV).map ngV) := by rw [map_ng_ng]; simpa [ngV_ngV] using hR
  -- what an edge has on its left
  have bnd : ∀ e, (e ∈ edg R ∨ e ∈ edg R') → (∀ p ∈ S, 0 ≤ trn e.1 e.2 p) ∧ ∀ x, (x ∈ R ∨ x ∈ R') → x = e.1 ∨ x = e.2 ∨ 0 < trn e.1 e.2 x := by
    rintro e (he | he)
    · refine ⟨hR.low e he, fun x hx => ?_⟩
      rcases hx with hx | hx
      · exact hR.str e he x hx
      · rcases cross_str hR hR' hx with h | h | h
        · rw [hh'] at h; injection h with h; subst h; exact hR.str e he m mR
        · rw [hl'] at h; injection h with h; subst h; exact hR.str e he M MR
        · exact .inr (.inr (h e he))
    · have he' := edg_ng_mem he
      have key : ∀ x, ngV x ∈ R'.map ngV → x = e.1 ∨ x = e.2 ∨ 0 < trn e.1 e.2 x := by
        intro x hx
        rcases hR'.str _ he' _ hx with h | h | h
        · exact .inl (inj h)
        · exact .inr (.inl (inj h))
        · exact .inr (.inr (by rw [← trn_ng]; exact h))
      refine ⟨fun p hp => ?_, fun x hx => ?_⟩
      · have := hR'.low _ he' (ngV p) (by rw [ngV_ngV]; exact hp)
        rw [← trn_ng]; exact this
      · rcases hx with hx | hx
        · rcases cross_str hR' hR2 (List.mem_map_of_mem hx) with h | h | h
          · rw [List.head?_map, hh] at h; injection h with h; rw [← inj h]; exact key M (List.mem_map_of_mem MR')
          · rw [List.getLast?_map, hl] at h; injection h with h; rw [← inj h]; exact key m (List.mem_map_of_mem mR')
          · exact .inr (.inr (by rw [← trn_ng]; exact h _ he'))
        · exact key x (List.mem_map_of_mem hx)
  have lL : R.reverse.length = R.length := List.length_reverse
  have lU : R'.reverse.length = R'.length := List.length_reverse
  have lLd : R.reverse.dropLast.length = R.length - 1 := by rw [List.length_dropLast, lL]
  have lUd : R'.reverse.dropLast.length = R'.length - 1 := by rw [List.length_dropLast, lU]
  have hH : (R.reverse.dropLast ++ R'.reverse.dropLast).length = (R.length - 1) + (R'.length - 1) := by rw [List.length_append, lLd, lUd]
  have iL : ∀ i, i < R.length - 1 → nth (t := tVec) (R.reverse.dropLast ++ R'.reverse.dropLast) i = nth (t := tVec) R (R.length - 1 - i) := fun i hi => by
    rw [nth_al (by omega), nth_dl (by omega), nth_rev (by omega)]
  have iU : ∀ j, j < R'.length - 1 → nth (t := tVec) (R.reverse.dropLast ++ R'.reverse.dropLast) (R.length - 1 + j) = nth (t := tVec) R' (R'.length - 1 - j) := fun j hj => by
    rw [nth_ar (by omega) (by omega), lLd, show R.length - 1 + j - (R.length - 1) = j by omega, nth_dl (by omega), nth_rev (by omega)]
  have r0 := nth_head hh
  have r1 := nth_last hl
  have s0 := nth_head hh'
  have s1 := nth_last hl'
  have iedg : ∀ i, i < (R.length - 1) + (R'.length - 1) → (nth (t := tVec) (R.reverse.dropLast ++ R'.reverse.dropLast) i, nth (t := tVec) (R.reverse.dropLast ++ R'.reverse.dropLast) (nxt ((R.length - 1) + (R'.length - 1)) i).toNat) ∈ edg R ∨ (nth (t := tVec) (R.reverse.dropLast ++ R'.reverse.dropLast) i, nth (t := tVec) (R.reverse.dropLast ++ R'.reverse.dropLast) (nxt ((R.length - 1) + (R'.length - 1)) i).toNat) ∈ edg R' := by
    intro i hi
    by_cases h : i < R.length - 1
    · left
      have e := edg_idx (r := R) (i := R.length - 2 - i) (by omega)
      rw [nxt_lt (by omega), iL i h]
      have h2 : nth (t := tVec) (R.reverse.dropLast ++ R'.reverse.dropLast) (i + 1) = nth (t := tVec) R (R.length - 2 - i) := by
        by_cases h3 : i + 1 < R.length - 1
        · rw [iL _ h3]; congr 1; omega
        · rw [show i + 1 = R.length - 1 + 0 by omega, iU 0 (by omega), show R'.length - 1 - 0 = R'.length - 1 by omega, s1, show R.length - 2 - i = 0 by omega, r0]
      rw [h2, show R.length - 1 - i = R.length - 2 - i + 1 by omega]
      exact e
    · right
      obtain ⟨j, rfl⟩ : ∃ j, i = R.length - 1 + j := ⟨i - (R.length - 1), by omega⟩
      have e := edg_idx (r := R') (i := R'.length - 2 - j) (by omega)
      rw [iU j (by omega)]
      have h2 : nth (t := tVec) (R.reverse.dropLast ++ R'.reverse.dropLast) (nxt ((R.length - 1) + (R'.length - 1)) (R.length - 1 + j)).toNat = nth (t := tVec) R' (R'.length - 2 - j) := by
        by_cases h3 : j + 1 < R'.length - 1
        · rw [nxt_lt (by omega), show R.length - 1 + j + 1 = R.length - 1 + (j + 1) by omega, iU _ h3]; congr 1; omega
        · rw [nxt_end (by omega), iL 0 (by omega), show R.length - 1 - 0 = R.length - 1 by omega, r1, show R'.length - 2 - j = 0 by omega, s0]
      rw [h2, show R'.length - 1 - j = R'.length - 2 - j + 1 by omega]
      exact e
  have inH : ∀ x, x ∈ R.reverse.dropLast ++ R'.reverse.dropLast → x ∈ R ∨ x ∈ R' := by
    intro x hx
    rcases List.mem_append.1 hx with h | h
    · exact .inl (List.mem_reverse.1 (List.dropLast_subset _ h))
    · exact .inr (List.mem_reverse.1 (List.dropLast_subset _ h))
  have subS : ∀ x, (x ∈ R ∨ x ∈ R') → x ∈ S := by
    rintro x (h | h)
    · exact hR.sub x h
    · have := hR'.sub _ (List.mem_map_of_mem h); rw [ngV_ngV] at this; exact this
  have dL : R.reverse.Pairwise ltV := List.pairwise_reverse.2 hR.desc
  have dU : R'.reverse.Pairwise (fun a b => ltV b a) := by
    have := hR'.desc
    rw [List.pairwise_map] at this
    exact List.pairwise_reverse.2 (this.imp fun {a b} h => ltV_ng.1 h)
  have spL : R.reverse = R.reverse.dropLast ++ [M] := by
    have : R.reverse.getLast? = some M := by rw [List.getLast?_reverse]; exact hh
    obtain ⟨ys, hy⟩ := List.getLast?_eq_some_iff.1 this
    rw [hy]; simp
  have spU : R'.reverse = R'.reverse.dropLast ++ [m] := by
    have : R'.reverse.getLast? = some m := by rw [List.getLast?_reverse]; exact hh'
    obtain ⟨ys, hy⟩ := List.getLast?_eq_some_iff.1 this
    rw [hy]; simp
  have ltM : ∀ x ∈ R.reverse.dropLast, ltV x M := fun x hx => by
    rw [spL] at dL
    exact (List.pairwise_append.1 dL).2.2 x hx M (by simp)
  have gtm : ∀ x ∈ R'.reverse.dropLast, ltV m x := fun x hx => by
    rw [spU] at dU
    exact (List.pairwise_append.1 dU).2.2 x hx m (by simp)
  refine ⟨?_, ?_, ?_, ?_, fun x hx => subS x (inH x hx)⟩
  · rw [hH]
    by_cases h : 3 ≤ R.length - 1 + (R'.length - 1)
    · exact h
    · exfalso
      have h1 : R.length = 2 := by omega
      have h2 : R'.length = 2 := by omega
      have e1 := edg_idx (r := R) (i := 0) (by omega)
      have e2 := edg_idx (r := R') (i := 0) (by omega)
      rw [show 0 + 1 = R.length - 1 by omega, r1, r0] at e1
      rw [show 0 + 1 = R'.length - 1 by omega, s1, s0] at e2
      have z : ∀ p ∈ S, crs (sbV M m) (sbV p m) = 0 := fun p hp => by
        have p1 := (bnd _ (.inl e1)).1 p hp
        have p2 := (bnd _ (.inr e2)).1 p hp
        have : trn M m p = - trn m M p := by unfold trn; grind
        simp only at p1 p2
        rw [this] at p2
        rw [← trn_crs]
        omega
      obtain ⟨a, ha, b, hb, c, hc, hne2⟩ := hn
      refine hne2 ?_
      rw [trn_crs]
      refine col0 (d := sbV M m) (fun h => ?_) ?_ ?_
      · have q1 := congrArg Prod.fst h
        have q2 := congrArg Prod.snd h
        unfold sbV at q1 q2
        simp only at q1 q2
        exact hne (Prod.ext (by omega) (by omega))
      · have : crs (sbV M m) (sbV b a) = crs (sbV M m) (sbV b m) - crs (sbV M m) (sbV a m) := by unfold crs sbV; grind
        rw [this, z b hb, z a ha]; rfl
      · have : crs (sbV M m) (sbV c a) = crs (sbV M m) (sbV c m) - crs (sbV M m) (sbV a m) := by unfold crs sbV; grind
        rw [this, z c hc, z a ha]; rfl
  · rw [List.nodup_append]
    refine ⟨?_, ?_, ?_⟩
    · exact (dL.sublist (List.dropLast_sublist _)).imp fun {a b} h e => by subst e; exact ltV_irrefl _ h
    · exact (dU.sublist (List.dropLast_sublist _)).imp fun {a b} h e => by subst e; exact ltV_irrefl _ h
    · rintro x hx y hy rfl
      have q1 := ltM x hx
      have q2 := gtm x hy
      have hxR' : x ∈ R' := List.mem_reverse.1 (List.dropLast_subset _ hy)
      rcases cross_str hR hR' hxR' with h | h | h
      · rw [hh'] at h; injection h with h; subst h; exact ltV_irrefl _ q2
      · rw [hl'] at h; injection h with h; subst h; exact ltV_irrefl _ q1
      · obtain ⟨i, hi, rfl⟩ := List.getElem_of_mem hx
        have hi2 : i < R.length - 1 := by omega
        have e := edg_idx (r := R) (i := R.length - 2 - i) (by omega)
        have e2 : R.reverse.dropLast[i] = nth (t := tVec) R (R.length - 2 - i + 1) := by
          rw [← nth_lt (t := tVec) hi, nth_dl (by omega), nth_rev (by omega)]; congr 1; omega
        have := h _ e
        rw [e2] at this
        simp only at this
        rw [trn_aa] at this
        omega
  · intro i hi x hx
    rw [hH] at hi ⊢
    exact (bnd _ (iedg i hi)).2 x (inH x hx)
  · intro i hi p hp
    rw [hH] at hi ⊢
    exact (bnd _ (iedg i hi)).1 p hp
theorem hull_cvx {S : List DV} (hs : S.Pairwise ltV) (hn : ∃ a ∈ S, ∃ b ∈ S, ∃ c ∈ S, trn a b c ≠ 0) : Cvx (fun p => p ∈ S) (chD S ++ chD S.reverse) := by
  have hn' := hn
  obtain ⟨a, ha, b, hb, c, hc, hne⟩ := hn'
  obtain ⟨n, hnl⟩ : ∃ n, S.length = n + 1 := ⟨S.length - 1, by have := List.length_pos_of_mem ha; omega⟩
  obtain ⟨t, r, e1, e2, e3, hR⟩ := chR_ok n hnl hs
  have hsr : (S.reverse.map ngV).Pairwise ltV := by
    rw [List.pairwise_map, List.pairwise_reverse]
    exact hs.imp fun {a b} h => ltV_ng.2 h
  obtain ⟨t', r', f1, f2, f3, hR0⟩ := chR_ok n (l := S.reverse.map ngV) (by rw [List.length_map, List.length_reverse]; exact hnl) hsr
  rw [chR_ng] at f1 f2 hR0
  have hR' : ChOK (fun p => (ngV p) ∈ S) ((chR S.reverse).map ngV) := by
    refine ⟨hR0.desc, hR0.cvx, fun e he p hp => hR0.low e he p ?_, hR0.str, fun x hx => ?_⟩
    · rw [show p = ngV (ngV p) from (ngV_ngV p).symm]
      exact List.mem_map_of_mem (List.mem_reverse.2 hp)
    · obtain ⟨y, hy, rfl⟩ := List.mem_map.1 (hR0.sub x hx)
      rw [ngV_ngV]
      exact List.mem_reverse.1 hy
  have injO : ∀ {a b : Option DV}, a.map ngV = b.map ngV → a = b := by
    intro a b h
    have := congrArg (Option.map ngV) h
    simpa [Option.map_map, show (ngV ∘ ngV) = id from funext ngV_ngV] using this
  have g2 : (chR S.reverse).getLast? = S.getLast? := by
    rw [List.getLast?_map, List.head?_map] at f2
    rw [injO f2, List.head?_reverse]
  have g3 : (chR S.reverse).head? = S.head? := by
    have h1 : ((chR S.reverse).map ngV).head? = some t' := by rw [f1]; rfl
    rw [← f3, List.head?_map, List.getLast?_map, List.getLast?_reverse] at h1
    exact injO h1
  have g1 : (chR S).head? = S.getLast? := by rw [e1, e3]; rfl
  obtain ⟨m, S', rfl⟩ : ∃ m S', S = m :: S' := by
    cases S with
    | nil => simp at ha
    | cons m S' => exact ⟨m, S', rfl⟩
  obtain ⟨M, hM1, hM2⟩ : ∃ M, (m :: S').getLast? = some M ∧ M ∈ S' := by
    cases S' with
    | nil =>
      simp at ha hb hc
      subst ha hb hc
      exact absurd (trn_aa _ _) hne
    | cons x S' => exact ⟨(x :: S').getLast (by simp), by rw [List.getLast?_cons_cons, List.getLast?_eq_some_getLast], List.getLast_mem _⟩
  exact two_cvx (m := m) (M := M) (by simp) (List.mem_cons_of_mem _ hM2) ((List.pairwise_cons.1 hs).1 M hM2) hR hR' (g1.trans hM1) e2 g3 (g2.trans hM1) hn
end Go.Proofs.YtghckbohaghgkaaGreat.DW

/-
  The sum of two polygons has no more corners than the two together. No program here.
-/
namespace Go.Proofs.YtghckbohaghgkaaGreat.DW
open Go.RowKit
theorem len_le_of_lt : ∀ (N : Nat) (l : List Nat), l.Nodup → (∀ x ∈ l, x < N) → l.length ≤ N
  | 0, l, _, h => by
    cases l with
    | nil => simp
    | cons a l => exact absurd (h a (by simp)) (by omega)
  | N + 1, l, hd, h => by
    by_cases hm : N ∈ l
    · have h1 := List.length_erase_of_mem hm
      have h2 := len_le_of_lt N (l.erase N) (hd.erase N) fun x hx => by
        have h3 := h x (List.mem_of_mem_erase hx)
        have h4 : x ≠ N := fun e => by subst e; exact hd.not_mem_erase hx
        omega
      omega
    · have := len_le_of_lt N l hd fun x hx => by
        have h3 := h x hx
        have h4 : x ≠ N := fun e => by subst e; exact hm hx
        omega
      omega
theorem pigeon {n N : Nat} {R : Nat → Nat → Prop} (h : ∀ i, i < n → ∃ c, c < N ∧ R i c) (inj : ∀ i j c, i < n → j < n → R i c → R j c → i = j) : n ≤ N := by
  have hf : ∃ f : Nat → Nat, ∀ i, i < n → f i < N ∧ R i (f i) := by
    refine ⟨fun i => if hi : i < n then Classical.choose (h i hi) else 0, fun i hi => ?_⟩
    simp only [hi, dif_pos]
    exact Classical.choose_spec (h i hi)
  obtain ⟨f, hf⟩ := hf
  have h1 := len_le_of_lt N ((List.range n).map f) (by
    rw [List.nodup_iff_pairwise_ne, List.pairwise_map]
    have hr : (List.range n).Pairwise (fun a b => a < b) := List.pairwise_lt_range
    refine (List.pairwise_iff_getElem.2 fun i j hi hj hij => ?_)
    simp only [List.length_range] at hi hj
    simp only [List.getElem_range]
    intro e
    have := inj i j (f i) hi hj (hf i hi).2 (by rw [e]; exact (hf j hj).2)
    omega) (by
    intro x hx
    obtain ⟨i, hi, rfl⟩ := List.mem_map.1 hx
    exact (hf i (List.mem_range.1 hi)).1)
  simpa using h1
theorem sq_nn (a : Int) : 0 ≤ a * a := by
  rcases Int.le_total 0 a with h | h
  · exact Int.mul_nonneg h h
  · exact Int.mul_nonneg_of_nonpos_of_nonpos h h
theorem nd_inj {l : List DV} (h : l.Nodup) {i j : Nat} (hi : i < l.length) (hj : j < l.length) (e : l[i] = l[j]) : i = j := by
  rw [List.nodup_iff_pairwise_ne] at h
  rcases Nat.lt_trichotomy i j with h1 | h1 | h1
  · exact absurd e (List.pairwise_iff_getElem.1 h i j hi hj h1)
  · exact h1
  · exact absurd e.symm (List.pairwise_iff_getElem.1 h j i hj hi h1)
theorem sb_ne {a b : DV} (h : a ≠ b) : sbV a b ≠ (0, 0) := by
  intro e
  unfold sbV at e
  have q1 := congrArg Prod.fst e
  have q2 := congrArg Prod.snd e
  simp only at q1 q2
  exact h (Prod.ext (by omega) (by omega))
theorem dt_pos {d : DV} (h : d ≠ (0, 0)) : 0 < dt d d := by
  unfold dt
  have h1 := sq_nn d.1
  have h2 := sq_nn d.2
  by_cases e1 : d.1 = 0
  · by_cases e2 : d.2 = 0
    · exact absurd (Prod.ext e1 e2) h
    · have : d.2 * d.2 ≠ 0 := fun h => (Int.mul_eq_zero.1 h).elim e2 e2
      omega
  · have : d.1 * d.1 ≠ 0 := fun h => (Int.mul_eq_zero.1 h).elim e1 e1
    omega
theorem pos_of_mul {a b c : Int} (h : a * b = c) (hb : 0 < b) (hc : 0 ≤ c) : 0 ≤ a := by
  by_cases ha : 0 ≤ a
  · exact ha
  · have := Int.mul_neg_of_neg_of_pos (show a < 0 by omega) hb
    omega
theorem pos_of_mul' {a b c : Int} (h : a * b = c) (hb : 0 < b) (hc : 0 < c) : 0 < a := by
  have := pos_of_mul h hb (Int.le_of_lt hc)
  by_cases ha : a = 0
  · subst ha; omega
  · omega
/-- Two edges with one direction, a point left of the one, and not right of the other. -/
theorem same_dir {d E c : DV} (hd : d ≠ (0, 0)) (h0 : crs d E = 0) (h1 : 0 < crs E c) (h2 : 0 ≤ crs d c) : 0 < dt d E := by
  have hE : E ≠ (0, 0) := fun h => by subst h; unfold crs at h1; simp at h1
  have k : dt d E * crs E c = crs d c * dt E E - crs d E * dt E c := by unfold dt crs; grind
  rw [h0, Int.zero_mul, Int.sub_zero] at k
  have n1 := pos_of_mul k h1 (Int.mul_nonneg h2 (Int.le_of_lt (dt_pos hE)))
  have k2 : dt d E * dt d E + crs d E * crs d E = dt d d * dt E E := by unfold dt crs; grind
  rw [h0, Int.mul_zero, Int.add_zero] at k2
  have n2 := Int.mul_pos (dt_pos hd) (dt_pos hE)
  by_cases hz : dt d E = 0
  · rw [hz, Int.mul_zero] at k2; omega
  · omega
theorem nxt_cases {n i : Nat} (hi : i < n) : (nxt n i).toNat = (if i + 1 < n then i + 1 else 0) := by
  split
  · exact nxt_lt (by assumption)
  · exact nxt_end (by omega)
theorem prev_of {n i : Nat} (hi : i < n) : ∃ h, h < n ∧ (nxt n h).toNat = i := by
  by_cases h0 : i = 0
  · exact ⟨n - 1, by omega, by rw [nxt_end (by omega), h0]⟩
  · exact ⟨i - 1, by omega, by rw [nxt_lt (by omega)]; omega⟩
theorem corn {l : List DV} (h : polyP l) {i k : Nat} (hi : i < l.length) (hk : k < l.length) (h1 : k ≠ i) (h2 : k ≠ (nxt l.length i).toNat) : 0 < trn (nth (t := tVec) l i) (nth (t := tVec) l (nxt l.length i).toNat) (nth (t := tVec) l k) :=
  h.2.2 i k hi hk (by omega) (by have := nxt_rng (n := l.length) (i := i) (by omega); omega)
theorem third (n i j : Nat) (hn : 3 ≤ n) : ∃ k, k < n ∧ k ≠ i ∧ k ≠ j := by
  by_cases h0 : i ≠ 0 ∧ j ≠ 0
  · exact ⟨0, by omega, by omega, by omega⟩
  · by_cases h1 : i ≠ 1 ∧ j ≠ 1
    · exact ⟨1, by omega, by omega, by omega⟩
    · exact ⟨2, by omega, by omega, by omega⟩
/-- The edge at corner t. -/
def edgV (l : List DV) (t : Nat) : DV := sbV (nth (t := tVec) l (nxt l.length t).toNat) (nth (t := tVec) l t)
theorem supp_edge {l : List DV} (h : polyP l) {d : DV} (hd : d ≠ (0, 0)) {i j : Nat} (hi : i < l.length) (hj : j < l.length) (hne : nth (t := tVec) l i ≠ nth (t := tVec) l j) (hall : ∀ x ∈ l, 0 ≤ crs d (sbV x (nth (t := tVec) l i)))
    (hz : crs d (sbV (nth (t := tVec) l j) (nth (t := tVec) l i)) = 0) : ∃ t, t < l.length ∧ crs d (edgV l t) = 0 ∧ 0 < dt d (edgV l t) := by
  have h3 : 3 ≤ l.length := by have := h.1.1; omega
  have hij : i ≠ j := fun e => hne (by rw [e])
  by_cases c1 : j = (nxt l.length i).toNat
  · obtain ⟨k, hk, hk1, hk2⟩ := third l.length i j h3
    have ht := corn h hi hk hk1 (by rw [← c1]; exact hk2)
    have he : edgV l i = sbV (nth (t := tVec) l j) (nth (t := tVec) l i) := by unfold edgV; rw [← c1]
    refine ⟨i, hi, by rw [he]; exact hz, ?_⟩
    rw [he]
    rw [trn_crs, ← c1] at ht
    exact same_dir hd hz ht (hall _ (nth_mem hk))
  · by_cases c2 : i = (nxt l.length j).toNat
    · obtain ⟨k, hk, hk1, hk2⟩ := third l.length i j h3
      have ht := corn h hj hk hk2 (by rw [← c2]; exact hk1)
      have he : edgV l j = sbV (nth (t := tVec) l i) (nth (t := tVec) l j) := by unfold edgV; rw [← c2]
      have hz' : crs d (sbV (nth (t := tVec) l i) (nth (t := tVec) l j)) = 0 := by
        have : crs d (sbV (nth (t := tVec) l i) (nth (t := tVec) l j)) = - crs d (sbV (nth (t := tVec) l j) (nth (t := tVec) l i)) := by unfold crs sbV; grind
        rw [this, hz]; rfl
      refine ⟨j, hj, by rw [he]; exact hz', ?_⟩
      rw [he]
      rw [trn_crs, ← c2] at ht
      refine same_dir hd hz' ht ?_
      have h4 := hall _ (nth_mem hk)
      have : crs d (sbV (nth (t := tVec) l k) (nth (t := tVec) l j)) = crs d (sbV (nth (t := tVec) l k) (nth (t := tVec) l i)) - crs d (sbV (nth (t := tVec) l j) (nth (t := tVec) l i)) := by unfold crs sbV; grind
      omega
    · exfalso
      obtain ⟨g, hg, hgi⟩ := prev_of hi
      have hr := nxt_rng (n := l.length) (i := i) (by omega)
      have hn : (nxt l.length i).toNat < l.length := by omega
      have t1 := corn h hi hj (Ne.symm hij) c1
      have t2 := corn h hg hj (fun e => c2 (by rw [e]; exact hgi.symm)) (by rw [hgi]; exact Ne.symm hij)
      rw [hgi] at t2
      have a1 := hall _ (nth_mem hn)
      have a2 := hall _ (nth_mem hg)
      generalize nth (t := tVec) l i = p at *
      generalize nth (t := tVec) l j = q at *
      generalize nth (t := tVec) l (nxt l.length i).toNat = s at *
      generalize nth (t := tVec) l g = u at *
      have k1 : trn p s q * dt d d = - (crs d (sbV s p) * dt d (sbV q p)) + dt (sbV s p) d * crs d (sbV q p) := by unfold trn dt crs sbV; grind
      have k2 : trn u p q * dt d d = crs d (sbV u p) * dt d (sbV q p) - crs d (sbV q p) * dt d (sbV u p) := by unfold trn dt crs sbV; grind
      rw [hz, Int.mul_zero, Int.add_zero] at k1
      rw [hz, Int.zero_mul, Int.sub_zero] at k2
      have m1 := Int.mul_pos t1 (dt_pos hd)
      have m2 := Int.mul_pos t2 (dt_pos hd)
      have n1 : dt d (sbV q p) < 0 := by
        by_cases hq : dt d (sbV q p) < 0
        · exact hq
        · have := Int.mul_nonneg a1 (show 0 ≤ dt d (sbV q p) by omega)
          omega
      have n2 : 0 < dt d (sbV q p) := by
        by_cases hq : 0 < dt d (sbV q p)
        · exact hq
        · have := Int.mul_nonneg a2 (show 0 ≤ - dt d (sbV q p) by omega)
          rw [Int.mul_neg] at this
          omega
      omega
/-- All sums. -/
def smV (a b : List DV) : List DV := a.flatMap fun p => b.map (addV p)
theorem smV_mem {a b : List DV} {x : DV} : x ∈ smV a b ↔ ∃ p ∈ a, ∃ q ∈ b, addV p q = x := by
  unfold smV
  simp only [List.mem_flatMap, List.mem_map]
/-- Two corners at which one finds edges of one direction are one corner. -/
theorem dir_inj {P : DV → Prop} {H : List DV} (hH : Cvx P H) {i j : Nat} (hi : i < H.length) (hj : j < H.length) {E : DV} (h1 : crs (edgV H i) E = 0) (h2 : 0 < dt (edgV H i) E) (h3 : crs (edgV H j) E = 0) (h4 : 0 < dt (edgV H j) E) : i = j := by
  have hE : 0 < dt E E := dt_pos fun h => by subst h; unfold dt at h2; simp at h2
  have k1 : crs (edgV H i) (edgV H j) * dt E E = crs (edgV H i) E * dt E (edgV H j) - crs (edgV H j) E * dt E (edgV H i) := by unfold dt crs; grind
  rw [h1, h3, Int.zero_mul, Int.zero_mul, Int.sub_zero] at k1
  have z : crs (edgV H i) (edgV H j) = 0 := by
    rcases Int.mul_eq_zero.1 k1 with h | h
    · exact h
    · omega
  have k2 : dt (edgV H i) (edgV H j) * dt E E = dt (edgV H i) E * dt (edgV H j) E + crs (edgV H i) E * crs (edgV H j) E := by unfold dt crs; grind
  rw [h1, Int.zero_mul, Int.add_zero] at k2
  have p := pos_of_mul' k2 hE (Int.mul_pos h2 h4)
  by_cases hij : i = j
  · exact hij
  · exfalso
    have ri := nxt_rng (n := H.length) (i := i) (by omega)
    have rj := nxt_rng (n := H.length) (i := j) (by omega)
    have mi : nth (t := tVec) H i ∈ H := nth_mem hi
    have mj : nth (t := tVec) H j ∈ H := nth_mem hj
    have ndI : nth (t := tVec) H i ≠ nth (t := tVec) H j := by
      rw [nth_lt hi, nth_lt hj]
      intro e
      exact hij (nd_inj hH.nodup _ _ e)
    have l1 := hH.low i hi _ (hH.sub _ mj)
    have l2 := hH.low j hj _ (hH.sub _ mi)
    have s1 := hH.str i hi _ mj
    have s2 := hH.str j hj _ mi
    unfold edgV at z p h1 h2 h3 h4
    have dd1 : 0 < dt (sbV (nth (t := tVec) H (nxt H.length i).toNat) (nth (t := tVec) H i)) (sbV (nth (t := tVec) H (nxt H.length i).toNat) (nth (t := tVec) H i)) := dt_pos fun h => by rw [h] at h2; unfold dt at h2; simp at h2
    generalize nth (t := tVec) H i = a at *
    generalize nth (t := tVec) H j = b at *
    generalize nth (t := tVec) H (nxt H.length i).toNat = a' at *
    generalize nth (t := tVec) H (nxt H.length j).toNat = b' at *
    rw [trn_crs] at l1 l2
    have k3 : crs (sbV b' b) (sbV a b) * dt (sbV a' a) (sbV a' a) = - (crs (sbV a' a) (sbV b a) * dt (sbV a' a) (sbV b' b)) - crs (sbV a' a) (sbV b' b) * dt (sbV a' a) (sbV a b) := by unfold dt crs sbV; grind
    rw [z, Int.zero_mul, Int.sub_zero] at k3
    have q1 := Int.mul_nonneg l2 (Int.le_of_lt dd1)
    have q2 := Int.mul_nonneg l1 (Int.le_of_lt p)
    have q3 : crs (sbV a' a) (sbV b a) * dt (sbV a' a) (sbV b' b) = 0 := by omega
    have q4 : crs (sbV a' a) (sbV b a) = 0 := by
      rcases Int.mul_eq_zero.1 q3 with h | h
      · exact h
      · omega
    have q5 : crs (sbV b' b) (sbV a b) = 0 := by
      have : crs (sbV b' b) (sbV a b) * dt (sbV a' a) (sbV a' a) = 0 := by rw [k3, q3]; rfl
      rcases Int.mul_eq_zero.1 this with h | h
      · exact h
      · omega
    rw [trn_crs] at s1 s2
    rcases s1 with h | h | h
    · exact ndI h.symm
    · rcases s2 with h' | h' | h'
      · exact ndI h'
      · subst h h'
        have : dt (sbV b a) (sbV a b) = - dt (sbV b a) (sbV b a) := by unfold dt sbV; grind
        omega
      · omega
    · omega
theorem mink_le {a b H : List DV} (ha : polyP a) (hb : polyP b) (hH : Cvx (fun p => p ∈ smV a b) H) : H.length ≤ a.length + b.length := by
  refine pigeon (R := fun i c => (c < a.length ∧ crs (edgV H i) (edgV a c) = 0 ∧ 0 < dt (edgV H i) (edgV a c)) ∨ (a.length ≤ c ∧ crs (edgV H i) (edgV b (c - a.length)) = 0 ∧ 0 < dt (edgV H i) (edgV b (c - a.length)))) ?_ ?_
  · intro i hi
    have ri := nxt_rng (n := H.length) (i := i) (by omega)
    have hn : (nxt H.length i).toNat < H.length := by omega
    have h3 := hH.three
    have hlow := hH.low i hi
    have nd : nth (t := tVec) H (nxt H.length i).toNat ≠ nth (t := tVec) H i := by
      rw [nth_lt hn, nth_lt hi]
      intro e
      have e2 := nd_inj hH.nodup _ _ e
      have := nxt_cases hi
      split at this <;> omega
    obtain ⟨p, hp, q, hq, e1⟩ := smV_mem.1 (hH.sub _ (nth_mem hi))
    obtain ⟨p', hp', q', hq', e2⟩ := smV_mem.1 (hH.sub _ (nth_mem hn))
    have hdd : edgV H i = sbV (nth (t := tVec) H (nxt H.length i).toNat) (nth (t := tVec) H i) := rfl
    have hd0 : edgV H i ≠ (0, 0) := by
      exact sb_ne nd
    have A : ∀ x ∈ a, 0 ≤ crs (edgV H i) (sbV x p) := fun x hx => by
      have h := hlow (addV x q) (smV_mem.2 ⟨x, hx, q, hq, rfl⟩)
      rw [trn_crs, ← hdd, ← e1] at h
      have : sbV (addV x q) (addV p q) = sbV x p := by unfold sbV addV; exact Prod.ext (by simp only; omega) (by simp only; omega)
      rw [this] at h; exact h
    have B : ∀ y ∈ b, 0 ≤ crs (edgV H i) (sbV y q) := fun y hy => by
      have h := hlow (addV p y) (smV_mem.2 ⟨p, hp, y, hy, rfl⟩)
      rw [trn_crs, ← hdd, ← e1] at h
      have : sbV (addV p y) (addV p q) = sbV y q := by unfold sbV addV; exact Prod.ext (by simp only; omega) (by simp only; omega)
      rw [this] at h; exact h
    have hz : crs (edgV H i) (sbV p' p) + crs (edgV H i) (sbV q' q) = 0 := by
      have : edgV H i = (p'.1 - p.1 + (q'.1 - q.1), p'.2 - p.2 + (q'.2 - q.2)) := by
        rw [hdd, ← e1, ← e2]; unfold sbV addV; exact Prod.ext (by simp only; omega) (by simp only; omega)
      rw [this]; unfold crs sbV; grind
    have hA := A p' hp'
    have hB := B q' hq'
    have zA : crs (edgV H i) (sbV p' p) = 0 := by omega
    have zB : crs (edgV H i) (sbV q' q) = 0 := by omega
    obtain ⟨i1, hi1, f1⟩ := List.getElem_of_mem hp
    obtain ⟨i2, hi2, f2⟩ := List.getElem_of_mem hp'
    obtain ⟨j1, hj1, g1⟩ := List.getElem_of_mem hq
    obtain ⟨j2, hj2, g2⟩ := List.getElem_of_mem hq'
    rw [← nth_lt (t := tVec) hi1] at f1
    rw [← nth_lt (t := tVec) hi2] at f2
    rw [← nth_lt (t := tVec) hj1] at g1
    rw [← nth_lt (t := tVec) hj2] at g2
    by_cases hpp : p = p'
    · have hqq : q ≠ q' := fun h => nd (by rw [← e1, ← e2, hpp, h])
      obtain ⟨t, ht, h1, h2⟩ := supp_edge hb hd0 hj1 hj2 (by rw [g1, g2]; exact hqq) (by rw [g1]; exact B) (by rw [g1, g2]; exact zB)
      exact ⟨a.length + t, by omega, .inr ⟨by omega, by rw [show a.length + t - a.length = t by omega]; exact ⟨h1, h2⟩⟩⟩
    · obtain ⟨t, ht, h1, h2⟩ := supp_edge ha hd0 hi1 hi2 (by rw [f1, f2]; exact hpp) (by rw [f1]; exact A) (by rw [f1, f2]; exact zA)
      exact ⟨t, by omega, .inl ⟨ht, h1, h2⟩⟩
  · rintro i j c hi hj (⟨_, h1, h2⟩ | ⟨hc, h1, h2⟩) (⟨_, h3, h4⟩ | ⟨hc', h3, h4⟩)
    · exact dir_inj hH hi hj h1 h2 h3 h4
    · omega
    · omega
    · exact dir_inj hH hi hj h1 h2 h3 h4
theorem hullD_of {l : List DV} (hn : ∃ a ∈ l, ∃ b ∈ l, ∃ c ∈ l, trn a b c ≠ 0) : Cvx (fun p => p ∈ l) (hullD l) := by
  have hn' : ∃ a ∈ srtD l, ∃ b ∈ srtD l, ∃ c ∈ srtD l, trn a b c ≠ 0 := by
    obtain ⟨a, ha, b, hb, c, hc, h⟩ := hn
    exact ⟨a, srtD_mem.2 ha, b, srtD_mem.2 hb, c, srtD_mem.2 hc, h⟩
  have hC := hull_cvx (srtD_srt l) hn'
  have h2 : ¬ (srtD l).length < 2 := by
    obtain ⟨a, ha, b, hb, c, hc, h⟩ := hn'
    intro hlt
    match hs : srtD l, ha, hb, hc with
    | [x], ha, hb, hc =>
      simp at ha hb hc
      subst ha hb hc
      exact h (trn_aa _ _)
    | _ :: _ :: _, _, _, _ => rw [hs] at hlt; simp at hlt; omega
  unfold hullD
  rw [if_neg h2]
  exact ⟨hC.three, hC.nodup, hC.str, fun i hi p hp => hC.low i hi p (srtD_mem.2 hp), fun x hx => srtD_mem.1 (hC.sub x hx)⟩
theorem trn_addV (c : DV) (x y z : DV) : trn (addV x c) (addV y c) (addV z c) = trn x y z := by unfold trn addV; grind
/-- The sum of two small polygons is a polygon. -/
theorem sum_poly {a b : List DV} (ha : polyP a) (hb : polyP b) (hl : a.length + b.length ≤ 16) (hs : ∀ x ∈ smV a b, okV x = true) : polyP (hullD (smV a b)) := by
  have la : 3 ≤ a.length := by have := ha.1.1; omega
  have lb : 3 ≤ b.length := by have := hb.1.1; omega
  have hC := hullD_of (l := smV a b) (by
    have m0 : nth (t := tVec) b 0 ∈ b := nth_mem (by omega)
    have r0 : (nxt a.length 0).toNat = 1 := nxt_lt (by omega)
    refine ⟨_, smV_mem.2 ⟨_, nth_mem (l := a) (i := 0) (by omega), _, m0, rfl⟩, _, smV_mem.2 ⟨_, nth_mem (l := a) (i := 1) (by omega), _, m0, rfl⟩, _, smV_mem.2 ⟨_, nth_mem (l := a) (i := 2) (by omega), _, m0, rfl⟩, ?_⟩
    rw [trn_addV]
    have := corn ha (i := 0) (k := 2) (by omega) (by omega) (by omega) (by omega)
    rw [r0] at this
    omega)
  have hle := mink_le ha hb hC
  have h3 := hC.three
  refine ⟨⟨by omega, by omega⟩, fun v hv => hs v (hC.sub v hv), fun i k hi hk n1 n2 => ?_⟩
  have ri := nxt_rng (n := (hullD (smV a b)).length) (i := i) (by omega)
  have hn : (nxt (hullD (smV a b)).length i).toNat < (hullD (smV a b)).length := by omega
  have nd : ∀ {j : Nat} (hj : j < (hullD (smV a b)).length), k ≠ j → nth (t := tVec) (hullD (smV a b)) k ≠ nth (t := tVec) (hullD (smV a b)) j := by
    intro j hj hkj
    rw [nth_lt hk, nth_lt hj]
    intro e
    exact hkj (nd_inj hC.nodup _ _ e)
  rcases hC.str i hi _ (nth_mem hk) with h | h | h
  · exact absurd h (nd hi (by omega))
  · exact absurd h (nd hn (by omega))
  · exact h
end Go.Proofs.YtghckbohaghgkaaGreat.DW

/-
  Coordinates that are at most a size: the closure that holds the size, and the whole.
-/
namespace Go.Proofs.YtghckbohaghgkaaGreat
open Go.RowKit Go.Lib
def inr (n lo hi : Int) : Bool := decide (lo ≤ n) && decide (n ≤ hi)
set_option maxRecDepth 100000 in
set_option maxHeartbeats 400000 in
theorem within_eq (n lo hi : Int) (w : World) :
    Calls Tryz.prog 48 #[.int .i64 n, .int .i64 lo, .int .i64 hi] w (fun e w' => e = .returned (.bool (inr n lo hi)) ∧ w' = w) := by
  by_cases h1 : lo ≤ n
  · by_cases h2 : n ≤ hi
    · go_enter Tryz.func48, Tryz.ntmps48
      go_wp2
      go_ret
      exact ⟨by simp [inr, h1, h2], rfl⟩
    · go_enter Tryz.func48, Tryz.ntmps48
      go_wp2
      go_ret
      exact ⟨by simp [inr, h1, h2], rfl⟩
  · go_enter Tryz.func48, Tryz.ntmps48
    go_wp2
    go_ret
    exact ⟨by simp [inr]; omega, rfl⟩
def encV (x : Int × Int) : List Value := [.int .i64 x.1, .int .i64 x.2]
def PredV (g : Nat) (lb : Array Value) (p : Int × Int → Bool) (w : World) : Prop :=
  ∀ (W : World) (x : Int × Int), Below w.heap.size w W → Calls Tryz.prog g (#[.agg (encV x).toArray] ++ lb) W fun e w' => e = .returned (.bool (p x)) ∧ Below w.heap.size w w'
set_option maxRecDepth 100000 in
set_option maxHeartbeats 400000 in
theorem arIn_pred (k : Int) (hk : 0 ≤ k ∧ k ≤ 1000000) (B : Nat) (w : World) (hB : B < w.heap.size) (hcell : w.cell? ⟨B, 0, none⟩ = some (.int .i64 k)) :
    PredV 179 #[.pointer (some ⟨B, 0, none⟩)] (fun x => !DW.inB k x) w := fun W x hb => by
  have hc : W.cell? ⟨B, 0, none⟩ = some (.int .i64 k) := (hb.cell (p := ⟨B, 0, none⟩) hB).trans hcell
  have hBW : B < W.heap.size := Nat.lt_of_lt_of_le hB hb.size
  have hne : B ≠ W.heap.size := by omega
  have hbl : Below w.heap.size w (W.alloc (.cells #[.int .i64 x.1, .int .i64 x.2] 113)) := hb.alloc hb.size _
  have e1 : DW.inB k x = (inr x.1 (-k) k && inr x.2 (-k) k) := by unfold DW.inB inr; rw [Bool.decide_and, Bool.decide_and]
  show Calls Tryz.prog 179 #[.agg #[.int .i64 x.1, .int .i64 x.2], .pointer (some ⟨B, 0, none⟩)] W fun e w' => e = .returned (.bool (!DW.inB k x)) ∧ Below w.heap.size w w'
  rw [e1]
  cases h1 : inr x.1 (-k) k
  · go_enter Tryz.func179, Tryz.ntmps179
    go_wp2_with fail
    refine (within_eq _ _ _ _).mono ?_
    rintro e w1 ⟨rfl, rfl⟩
    rw [h1]
    go_wp2
    go_ret
    exact ⟨rfl, hbl⟩
  · go_enter Tryz.func179, Tryz.ntmps179
    go_wp2_with fail
    refine (within_eq _ _ _ _).mono ?_
    rintro e w1 ⟨rfl, rfl⟩
    rw [h1]
    go_wp2_with fail
    refine (within_eq _ _ _ _).mono ?_
    rintro e w1 ⟨rfl, rfl⟩
    go_wp2
    go_ret
    exact ⟨by simp, hbl⟩
set_option maxRecDepth 100000 in
set_option maxHeartbeats 2000000 in
theorem indexFuncV (g : Nat) (lb : Array Value) (p : Int × Int → Bool) (eg : ∀ args w, (callFunc g args).run Tryz.prog w = .ok (.enter g args) w) (b off c : Nat) (l : List (Int × Int)) (w : World) (hp : PredV g lb p w) (hbig : l.length ≤ 9223372036854775807) (hb : b < w.heap.size)
    (hc : ∀ j, j < l.length → ∀ i v, (encV l[j]!)[i]? = some v → w.cell? ⟨b, off + j * 2 + i, none⟩ = some v) :
    Calls Tryz.prog 211 #[.slice (some ⟨b, off, none⟩) l.length c, .func (.func g) #[] lb] w fun e w' => e = .returned (.int .i64 (DW.ixf (t := DW.tVec) p l)) ∧ Below w.heap.size w w' := by
  have hrow : ∀ (W : World), Below w.heap.size w W → ∀ j, j < l.length → W.cell? ⟨b, off + j * 2, none⟩ = some (.int .i64 l[j]!.1) ∧ W.cell? ⟨b, off + j * 2 + 1, none⟩ = some (.int .i64 l[j]!.2) := fun W hW j hj =>
    ⟨(hW.cell (p := ⟨b, off + j * 2, none⟩) hb).trans (hc j hj 0 _ rfl), (hW.cell (p := ⟨b, off + j * 2 + 1, none⟩) hb).trans (hc j hj 1 _ rfl)⟩
  clear hc
  obtain ⟨n, hn⟩ : ∃ n, n = l.length := ⟨_, rfl⟩
  have HN : Aside (n = l.length) := hn
  rw [← hn] at hrow hbig ⊢
  clear hn
  go_enter Tryz.func211, Tryz.ntmps211
  go_wp2
  go_loopg [5, 8] n (fun gg _ s8 wr => ∃ kk : Nat, kk ≤ n ∧ n - kk ≤ gg ∧ s8 = .int .i64 kk ∧ Aside (Below w.heap.size w wr) ∧ Aside (∀ j, j < kk → p l[j]! = false))
  case atStart => exact ⟨0, Nat.zero_le _, by omega, rfl, Below.refl _ w, fun j hj => absurd hj (Nat.not_lt_zero _)⟩
  case round =>
    obtain ⟨kk, hkk, hg, rfl, BW, A⟩ := hrel
    by_cases hlt : kk < n
    · have hltz : (kk : Int) < (n : Int) := by omega
      obtain ⟨l2, l3⟩ := hrow wr BW.out kk (by have := HN.out; omega)
      have hcall : Calls Tryz.prog g (#[.agg #[.int .i64 l[kk]!.1, .int .i64 l[kk]!.2]] ++ lb) wr fun e w' => e = .returned (.bool (p l[kk]!)) ∧ Below w.heap.size w w' := hp wr l[kk]! BW.out
      clear hrow hp
      generalize hy : l[kk]! = y at l2 l3 hcall
      have B : Aside (l[kk]! = y) := hy
      clear hy
      cases hq : p y with
      | true =>
        rw [hq] at hcall
        go_wp2_with fail
        refine hcall.mono ?_
        rintro e w' ⟨rfl, hb'⟩
        go_wp2
        go_ret
        refine ⟨?_, hb'⟩
        have hkl : kk < l.length := by have := HN.out; omega
        rw [DW.ixf_at hkl (by rw [DW.nth_lt hkl, ← getElem!_pos l kk hkl, B.out]; exact hq) (fun j hj => by rw [DW.nth_lt (by omega), ← getElem!_pos l j (by omega)]; exact A.out j hj)]
        rfl
      | false =>
        rw [hq] at hcall
        go_wp2_with fail
        refine hcall.mono ?_
        rintro e w' ⟨rfl, hb'⟩
        go_wp2
        go_roundg (n - (kk + 1))
        case measure => omega
        case rel =>
          refine ⟨kk + 1, by omega, by omega, by go_num, hb', (show Aside _ from fun j hj => ?_)⟩
          by_cases e : j = kk
          · subst e
            rw [B.out]; exact hq
          · exact A.out j (by omega)
    · have hltz : ¬ (kk : Int) < (n : Int) := by omega
      have : kk = n := by omega
      subst this
      go_wp2
      go_ret
      refine ⟨?_, BW.out⟩
      have hkl := HN.out
      rw [DW.ixf_none fun j hj => by rw [DW.nth_lt hj, ← getElem!_pos l j hj]; exact A.out j (by omega)]
      rfl
end Go.Proofs.YtghckbohaghgkaaGreat
namespace Go.Proofs.YtghckbohaghgkaaGreat.DW
open Go.RowKit Go.Lib
set_option maxRecDepth 100000 in
set_option maxHeartbeats 1000000 in
theorem areIn_fn (k : Int) (hk : 0 ≤ k ∧ k ≤ 1000000) (l : List DV) (hl : l ≠ []) : Fn Tryz.prog 134 [⟨.int, k⟩, ⟨.slice tVec, l⟩] false [⟨.bool, !(l.any fun v => !inB k v)⟩] := by
  refine ⟨enters Tryz.func134 rfl rfl, fun w vs S ha => ?_⟩
  match vs, ha with
  | [v0, v1], ⟨⟨f0, h0, _⟩, ⟨f1, ⟨cs, hpk, hr⟩, _⟩, _⟩ =>
    obtain rfl := drep_int h0
    obtain rfl := pk_one rfl hpk
    obtain ⟨ad, c, hcs, hc1, hc2, ⟨hnil, _⟩ | ⟨b, off, fps, _, rfl, _, hE⟩⟩ := hr
    · exact absurd hnil hl
    injection hcs with hcs _
    subst hcs
    have hcell : ∀ j, j < l.length → ∀ i v, (encV l[j]!)[i]? = some v → w.cell? ⟨b, off + j * 2 + i, none⟩ = some v := by
      intro j hj i v hv
      obtain ⟨f, cs, _, hrp, hc⟩ := hE.2 j _ (List.getElem?_eq_getElem hj)
      obtain ⟨c1, c2, f1, f2, rfl, _, g1, g2⟩ := hrp
      rw [getElem!_pos l j hj] at hv
      have e1 : c1 = [.int .i64 l[j].1] := g1.1
      have e2 : c2 = [.int .i64 l[j].2] := g2.1
      rw [e1, e2] at hc
      exact hc i v hv
    have hb : b < w.heap.size := by
      have h0 : 0 < l.length := List.length_pos_iff.2 hl
      exact cell_lt (hcell 0 h0 0 _ rfl)
    have eg : ∀ args w, (callFunc 179 args).run Tryz.prog w = .ok (.enter 179 args) w := enters Tryz.func179 rfl rfl
    have hix := indexFuncV 179 #[.pointer (some ⟨w.heap.size, 0, none⟩)] (fun x => !inB k x) eg b off c l (w.alloc (.cells #[.int .i64 k] 3))
      (arIn_pred k hk w.heap.size _ (by simp) (by simp)) (Nat.le_trans hc1 (Nat.le_trans hc2 (by decide))) (by simp; omega) (fun j hj i v hi => Lib.cell?_alloc_some _ (hcell j hj i v hi))
    have hcon : Calls Tryz.prog 168 #[.slice (some ⟨b, off, none⟩) l.length c, .func (.func 179) #[] #[.pointer (some ⟨w.heap.size, 0, none⟩)]] (w.alloc (.cells #[.int .i64 k] 3)) fun e w' => e = .returned (.bool (l.any fun x => !inB k x)) ∧ Below (w.alloc (.cells #[.int .i64 k] 3)).heap.size (w.alloc (.cells #[.int .i64 k] 3)) w' := by
      rw [show (l.any fun x => !inB k x) = decide (0 ≤ ixf (t := tVec) (fun x => !inB k x) l) from (@ixf_any tVec (fun x => !inB k x) l).symm]
      generalize ixf (t := tVec) (fun x => !inB k x) l = r at hix ⊢
      generalize l.length = n at hix ⊢
      generalize w.alloc (.cells #[.int .i64 k] 3) = W at hix ⊢
      go_enter Tryz.func168, Tryz.ntmps168
      go_wp2_with fail
      refine hix.mono ?_
      rintro e w' ⟨rfl, hb'⟩
      go_wp2
      go_ret
      exact ⟨rfl, hb'⟩
    clear hcell hE
    generalize (l.any fun x => !inB k x) = r at hcon ⊢
    have key : Calls Tryz.prog 134 #[.int .i64 k, .slice (some ⟨b, off, none⟩) l.length c] w (fun e w' => e = .returned (.bool (!r)) ∧ Below w.heap.size w w') := by
      generalize l.length = n at hcon ⊢
      go_enter Tryz.func134, Tryz.ntmps134
      go_wp2_with fail
      refine hcon.mono ?_
      rintro e w' ⟨rfl, hb'⟩
      go_wp2
      go_ret
      exact ⟨rfl, ((Below.refl _ w).alloc (Nat.le_refl _) _).trans (hb'.mono (by simp))⟩
    exact key.mono fun e w' h => ⟨h.2, _, h.1, dres_bool⟩
end Go.Proofs.YtghckbohaghgkaaGreat.DW

/-
  Small polygons.
-/
namespace Go.Proofs.YtghckbohaghgkaaGreat.DW
open Go.RowKit
def allIn (k : Int) (l : List DV) : Bool := !(l.any fun v => !inB k v)
theorem allIn_f {k : Int} {l : List DV} {i : Nat} (hi : i < l.length) (h : inB k (nth (t := tVec) l i) = false) : allIn k l = false := by
  unfold allIn
  rw [Bool.not_eq_false', List.any_eq_true]
  exact ⟨_, nth_mem hi, by rw [h]; rfl⟩
theorem allIn_t {k : Int} {l : List DV} (h : ∀ i, i < l.length → inB k (nth (t := tVec) l i) = true) : allIn k l = true := by
  unfold allIn
  rw [Bool.not_eq_true', List.any_eq_false]
  intro v hv
  obtain ⟨i, hi, rfl⟩ := List.getElem_of_mem hv
  have := h i hi
  rw [nth_lt hi] at this
  rw [this]; decide
theorem l10Inside_fn (l : List DV) (k : Int) (hk : 0 ≤ k ∧ k ≤ 1000000) : Fn Tryz.prog 131 [⟨.slice tVec, l⟩, ⟨.int, k⟩] false [⟨.bool, allIn k l⟩] := by
  refine fn_enter tabOK mixes Tryz.func131 rfl rfl _ Tryz.ntmps131 _ Tryz.results131 (by simp) fun hwf => ?_
  have hl : l.length ≤ 9223372036854775807 := (hwf ⟨.slice tVec, l⟩ (by simp)).1
  try simp (config := { maxSteps := 10000000 }) only [go_sem]
  refine LoopG.intro _ _ _ (fun i : Nat => ⟨[(1, .sc (.int .i64 k)), (7, .sl tVec l), (8, .sc (.int .i64 l.length)), (9, .sc (.int .i64 i))], []⟩) (fun i => ∀ j, j < i → j < l.length → inB k (nth (t := tVec) l j) = true) (fun i => l.length - i) 0 ?_ (fun j h => absurd h (Nat.not_lt_zero _)) ?_
  · refine Wk.mk [] ?_
    try simp (config := { maxSteps := 10000000 }) only [go_sem]
    try (and_intros <;> first | rfl | omega | exact ⟨_, rfl⟩)
  · rintro i hi
    try simp (config := { maxSteps := 10000000 }) only [go_sem]
    refine CondW_dec (fun hA => ?_) (fun hA => ?_)
    · have c1 := l01In_fn (nth (t := tVec) l i).1 (-k) k
      have c2 := l01In_fn (nth (t := tVec) l i).2 (-k) k
      cases e1 : decide (-k ≤ (nth (t := tVec) l i).1 ∧ (nth (t := tVec) l i).1 ≤ k) <;> rw [e1] at c1
      · have e0 : inB k (nth (t := tVec) l i) = false := by unfold inB; rw [e1]; rfl
        rw [allIn_f (by omega) e0]
        try simp (config := { maxSteps := 10000000 }) only [go_sem]
        repeat (refine And.intro (by first | omega | (constructor <;> omega) | kernel_rfl) ?_)
        repeat (refine And.intro (by first | omega | (constructor <;> omega) | kernel_rfl) ?_)
        refine CallW.mk (c1) ?_
        try simp (config := { maxSteps := 10000000 }) only [go_sem]
      · cases e2 : decide (-k ≤ (nth (t := tVec) l i).2 ∧ (nth (t := tVec) l i).2 ≤ k) <;> rw [e2] at c2
        · have e0 : inB k (nth (t := tVec) l i) = false := by unfold inB; rw [e1, e2]; rfl
          rw [allIn_f (by omega) e0]
          try simp (config := { maxSteps := 10000000 }) only [go_sem]
          repeat (refine And.intro (by first | omega | (constructor <;> omega) | kernel_rfl) ?_)
          repeat (refine And.intro (by first | omega | (constructor <;> omega) | kernel_rfl) ?_)
          refine CallW.mk (c1) ?_
          try simp (config := { maxSteps := 10000000 }) only [go_sem]
          repeat (refine And.intro (by first | omega | (constructor <;> omega) | kernel_rfl) ?_)
          refine CallW.mk (c2) ?_
          try simp (config := { maxSteps := 10000000 }) only [go_sem]
        · have e0 : inB k (nth (t := tVec) l i) = true := by unfold inB; rw [e1, e2]; rfl
          try simp (config := { maxSteps := 10000000 }) only [go_sem]
          repeat (refine And.intro (by first | omega | (constructor <;> omega) | kernel_rfl) ?_)
          repeat (refine And.intro (by first | omega | (constructor <;> omega) | kernel_rfl) ?_)
          refine CallW.mk (c1) ?_
          try simp (config := { maxSteps := 10000000 }) only [go_sem]
          repeat (refine And.intro (by first | omega | (constructor <;> omega) | kernel_rfl) ?_)
          refine CallW.mk (c2) ?_
          try simp (config := { maxSteps := 10000000 }) only [go_sem]
          repeat (refine And.intro (by first | omega | (constructor <;> omega) | kernel_rfl) ?_)
          refine LoopK.mk (i + 1) ?_ (fun j h1 h2 => ?_) (by omega)
          · refine Wk.mk [] ?_
            try simp (config := { maxSteps := 10000000 }) only [go_sem]
            try (and_intros <;> first | rfl | omega | exact ⟨_, rfl⟩)
          · by_cases h3 : j < i
            · exact hi j h3 h2
            · rw [show j = i by omega]; exact e0
    · rw [allIn_t fun j hj => hi j (by omega) hj]
      try simp (config := { maxSteps := 10000000 }) only [go_sem]
/-- A polygon of at most five corners with coordinates of at most k. -/
noncomputable def smB (l : List DV) (k : Int) : Bool := decide ((l.length : Int) ≤ 5) && (polyB l && allIn k l)
theorem polyB_ne {l : List DV} (h : polyB l = true) : l ≠ [] := by
  rintro rfl
  have := (@of_decide_eq_true _ (Classical.propDecidable _) h : polyP []).1
  simp at this
theorem isSmall_fn (l : List DV) (k : Int) (hk : 0 ≤ k ∧ k ≤ 1000000) : Fn Tryz.prog 95 [⟨.slice tVec, l⟩, ⟨.int, k⟩] false [⟨.bool, smB l k⟩] := by
  have c1 := implIsPolygon_fn l
  unfold smB
  cases h1 : decide ((l.length : Int) ≤ 5)
  · refine fn_enter tabOK mixes Tryz.func95 rfl rfl _ Tryz.ntmps95 _ Tryz.results95 (by simp) fun hwf => ?_
    try simp (config := { maxSteps := 10000000 }) only [go_sem, h1]
  · cases h2 : polyB l <;> rw [h2] at c1
    · refine fn_enter tabOK mixes Tryz.func95 rfl rfl _ Tryz.ntmps95 _ Tryz.results95 (by simp) fun hwf => ?_
      try simp (config := { maxSteps := 10000000 }) only [go_sem, h1]
      repeat (refine And.intro (by first | omega | (constructor <;> omega) | kernel_rfl) ?_)
      refine CallW.mk (c1) ?_
      try simp (config := { maxSteps := 10000000 }) only [go_sem]
    · have c2 : Fn Tryz.prog 134 [⟨.int, k⟩, ⟨.slice tVec, l⟩] false [⟨.bool, allIn k l⟩] := areIn_fn k hk l (polyB_ne h2)
      refine fn_enter tabOK mixes Tryz.func95 rfl rfl _ Tryz.ntmps95 _ Tryz.results95 (by simp) fun hwf => ?_
      try simp (config := { maxSteps := 10000000 }) only [go_sem, h1]
      repeat (refine And.intro (by first | omega | (constructor <;> omega) | kernel_rfl) ?_)
      refine CallW.mk (c1) ?_
      try simp (config := { maxSteps := 10000000 }) only [go_sem]
      repeat (refine And.intro (by first | omega | (constructor <;> omega) | kernel_rfl) ?_)
      refine CallW.mk (c2) ?_
      try simp (config := { maxSteps := 10000000 }) only [go_sem]
theorem l10Shape_fn (l : List DV) (k : Int) (hk : 0 ≤ k ∧ k ≤ 1000000) : Fn Tryz.prog 91 [⟨.slice tVec, l⟩, ⟨.int, k⟩] false [⟨.bool, smB l k⟩] := by
  have c1 := specIsPolygon_fn l
  have c2 := l10Inside_fn l k hk
  unfold smB
  cases h2 : polyB l <;> rw [h2] at c1
  · rw [Bool.false_and, Bool.and_false]
    refine fn_enter tabOK mixes Tryz.func91 rfl rfl _ Tryz.ntmps91 _ Tryz.results91 (by simp) fun hwf => ?_
    try simp (config := { maxSteps := 10000000 }) only [go_sem]
    repeat (refine And.intro (by first | omega | (constructor <;> omega) | kernel_rfl) ?_)
    refine CallW.mk (c1) ?_
    try simp (config := { maxSteps := 10000000 }) only [go_sem]
  · cases h1 : decide ((l.length : Int) ≤ 5)
    · refine fn_enter tabOK mixes Tryz.func91 rfl rfl _ Tryz.ntmps91 _ Tryz.results91 (by simp) fun hwf => ?_
      try simp (config := { maxSteps := 10000000 }) only [go_sem]
      repeat (refine And.intro (by first | omega | (constructor <;> omega) | kernel_rfl) ?_)
      refine CallW.mk (c1) ?_
      try simp (config := { maxSteps := 10000000 }) only [go_sem]
      try simp (config := { maxSteps := 10000000 }) only [go_sem, h1]
    · refine fn_enter tabOK mixes Tryz.func91 rfl rfl _ Tryz.ntmps91 _ Tryz.results91 (by simp) fun hwf => ?_
      try simp (config := { maxSteps := 10000000 }) only [go_sem]
      repeat (refine And.intro (by first | omega | (constructor <;> omega) | kernel_rfl) ?_)
      refine CallW.mk (c1) ?_
      try simp (config := { maxSteps := 10000000 }) only [go_sem]
      try simp (config := { maxSteps := 10000000 }) only [go_sem, h1]
      repeat (refine And.intro (by first | omega | (constructor <;> omega) | kernel_rfl) ?_)
      refine CallW.mk (c2) ?_
      try simp (config := { maxSteps := 10000000 }) only [go_sem]
end Go.Proofs.YtghckbohaghgkaaGreat.DW

/-
  Sums of polygons; what a robot blocks; where a point is of a polygon.
-/
namespace Go.Proofs.YtghckbohaghgkaaGreat.DW
open Go.RowKit
theorem polyB_p {l : List DV} (h : polyB l = true) : polyP l := @of_decide_eq_true _ (Classical.propDecidable _) h
theorem poly_map {l : List DV} {f : DV → DV} (h : polyP l) (hok : ∀ v ∈ l, okV (f v) = true) (ht : ∀ a b c, trn (f a) (f b) (f c) = trn a b c) : polyP (l.map f) := by
  have hn : ∀ {k}, k < l.length → nth (t := tVec) (l.map f) k = f (nth (t := tVec) l k) := fun {k} hk => by
    rw [nth_lt (t := tVec) hk, nth_lt (t := tVec) (l := l.map f) (by rw [List.length_map]; exact hk), List.getElem_map]
  refine ⟨by rw [List.length_map]; exact h.1, fun v hv => ?_, fun i k hi hk => ?_⟩
  · obtain ⟨u, hu, rfl⟩ := List.mem_map.1 hv
    exact hok u hu
  · rw [List.length_map] at hi hk
    have ri := nxt_rng (n := l.length) (i := i) (by omega)
    have := h.2.2 i k hi hk
    unfold cornOK at this ⊢
    rw [List.length_map, hn hi, hn hk, hn (by omega), ht]
    exact this
theorem trn_rot1 (a b c : DV) : trn (rot1 a) (rot1 b) (rot1 c) = trn a b c := by unfold trn rot1; grind
theorem trn_rot (a b c : DV) : ∀ n, trn (rotN n a) (rotN n b) (rotN n c) = trn a b c
  | 0 => rfl
  | n + 1 => by
    show trn (rot1 (rotN n a)) (rot1 (rotN n b)) (rot1 (rotN n c)) = _
    rw [trn_rot1, trn_rot a b c n]
theorem okV_neg {v : DV} (h : okV v = true) : okV (negV v) = true := by
  obtain ⟨h1, h2, h3, h4⟩ := okV_b h
  unfold negV
  exact okV_of (by simp only; omega) (by simp only; omega) (by simp only; omega) (by simp only; omega)
theorem poly_neg {l : List DV} (h : polyP l) : polyP (l.map negV) := poly_map h (fun v hv => okV_neg (h.2.1 v hv)) trn_ng
theorem poly_rot {l : List DV} (h : polyP l) (n : Nat) : polyP (l.map (rotN n)) := poly_map h (fun v hv => okV_rot (h.2.1 v hv) n) fun a b c => trn_rot a b c n
theorem inB_b {k : Int} {v : DV} (h : inB k v = true) : -k ≤ v.1 ∧ v.1 ≤ k ∧ -k ≤ v.2 ∧ v.2 ≤ k := by
  unfold inB at h
  rw [Bool.and_eq_true] at h
  exact ⟨(of_decide_eq_true h.1).1, (of_decide_eq_true h.1).2, (of_decide_eq_true h.2).1, (of_decide_eq_true h.2).2⟩
theorem inB_of {k : Int} {v : DV} (h1 : -k ≤ v.1) (h2 : v.1 ≤ k) (h3 : -k ≤ v.2) (h4 : v.2 ≤ k) : inB k v = true := by
  unfold inB
  rw [Bool.and_eq_true, decide_eq_true_iff, decide_eq_true_iff]
  exact ⟨⟨h1, h2⟩, h3, h4⟩
theorem inB_rot {k : Int} {v : DV} (h : inB k v = true) : ∀ n, inB k (rotN n v) = true
  | 0 => h
  | n + 1 => by
    obtain ⟨b1, b2, b3, b4⟩ := inB_b (inB_rot h n)
    show inB k (rot1 (rotN n v)) = true
    unfold rot1
    exact inB_of (by simp only; omega) (by simp only; omega) (by simp only; omega) (by simp only; omega)
/-- A small polygon. -/
structure SmP (k : Int) (l : List DV) : Prop where
  five : l.length ≤ 5
  poly : polyP l
  ins : ∀ v ∈ l, inB k v = true
theorem smB_p {l : List DV} {k : Int} (h : smB l k = true) : SmP k l := by
  unfold smB at h
  rw [Bool.and_eq_true, Bool.and_eq_true] at h
  obtain ⟨h1, h2, h3⟩ := h
  refine ⟨by have := of_decide_eq_true h1; omega, polyB_p h2, fun v hv => ?_⟩
  unfold allIn at h3
  rw [Bool.not_eq_true', List.any_eq_false] at h3
  have := h3 v hv
  simpa using this
theorem SmP.rot {k : Int} {l : List DV} (h : SmP k l) (n : Nat) : SmP k (l.map (rotN n)) :=
  ⟨by rw [List.length_map]; exact h.five, poly_rot h.poly n, fun v hv => by obtain ⟨u, hu, rfl⟩ := List.mem_map.1 hv; exact inB_rot (h.ins u hu) n⟩
theorem SmP.neg {k : Int} {l : List DV} (h : SmP k l) : SmP k (l.map negV) :=
  ⟨by rw [List.length_map]; exact h.five, poly_neg h.poly, fun v hv => by
    obtain ⟨u, hu, rfl⟩ := List.mem_map.1 hv
    obtain ⟨b1, b2, b3, b4⟩ := inB_b (h.ins u hu)
    unfold negV
    exact inB_of (by simp only; omega) (by simp only; omega) (by simp only; omega) (by simp only; omega)⟩
theorem SmP.ok {k : Int} {l : List DV} (h : SmP k l) : ∀ v ∈ l, okV v = true := h.poly.2.1
theorem SmP.sum_ok {k m : Int} {a b : List DV} (ha : SmP k a) (hb : SmP m b) (hkm : k + m ≤ 1000) : ∀ x ∈ smV a b, okV x = true := by
  intro x hx
  obtain ⟨p, hp, q, hq, rfl⟩ := smV_mem.1 hx
  obtain ⟨b1, b2, b3, b4⟩ := inB_b (ha.ins p hp)
  obtain ⟨c1, c2, c3, c4⟩ := inB_b (hb.ins q hq)
  unfold addV
  exact okV_of (by simp only; omega) (by simp only; omega) (by simp only; omega) (by simp only; omega)
theorem SmP.sum {k m : Int} {a b : List DV} (ha : SmP k a) (hb : SmP m b) (hkm : k + m ≤ 1000) : polyP (hullD (smV a b)) :=
  sum_poly ha.poly hb.poly (by have := ha.five; have := hb.five; omega) (ha.sum_ok hb hkm)
def smI (a b : List DV) (i : Nat) : List DV := smV (a.take i) b
theorem smI_step {a b : List DV} {i : Nat} (h : i < a.length) : smI a b (i + 1) = smI a b i ++ b.map (addV (nth (t := tVec) a i)) := by
  unfold smI smV
  rw [List.take_succ_eq_append_getElem h, nth_lt h, List.flatMap_append]
  simp
theorem smV_len (a b : List DV) : (smV a b).length = a.length * b.length := by
  unfold smV
  induction a with
  | nil => simp
  | cons x a ih => rw [List.flatMap_cons, List.length_append, ih, List.length_map, List.length_cons, Nat.succ_mul]; omega
theorem smI_len {a b : List DV} {i : Nat} (h : i ≤ a.length) : (smI a b i).length = i * b.length := by
  unfold smI; rw [smV_len, List.length_take, Nat.min_eq_left h]
theorem smI_all {a b : List DV} {i : Nat} (h : a.length ≤ i) : smI a b i = smV a b := by unfold smI; rw [List.take_of_length_le h]
theorem five_mul {i n : Nat} (h1 : i ≤ 5) (h2 : n ≤ 5) : i * n ≤ 25 := Nat.mul_le_mul h1 h2
theorem SumPolygonsI_fn {k m : Int} (a b : List DV) (ha : SmP k a) (hb : SmP m b) (hkm : k + m ≤ 1000) : Fn Tryz.prog 122 [⟨.slice tVec, a⟩, ⟨.slice tVec, b⟩] true [⟨.slice tVec, hullD (smV a b)⟩] := by
  have c1 := implIsPolygon_fn a
  have c2 := implIsPolygon_fn b
  rw [polyB_t ha.poly] at c1
  rw [polyB_t hb.poly] at c2
  have hab := five_mul ha.five hb.five
  have l1 := ha.five
  have l2 := hb.five
  have hab' : (a.length : Int) * (b.length : Int) ≤ 25 := by exact_mod_cast hab
  have hab0 : (0 : Int) ≤ (a.length : Int) * (b.length : Int) := Int.mul_nonneg (by omega) (by omega)
  have d0 := decide_eq_false (p := (a.length : Int) * (b.length : Int) > 64) (by omega)
  refine fn_enter tabOK mixes Tryz.func122 rfl rfl _ Tryz.ntmps122 _ Tryz.results122 (by simp) fun hwf => ?_
  try simp (config := { maxSteps := 10000000 }) only [go_sem]
  repeat (refine And.intro (by first | omega | (constructor <;> omega) | kernel_rfl) ?_)
  refine CallW.mk (c1) ?_
  try simp (config := { maxSteps := 10000000 }) only [go_sem]
  repeat (refine And.intro (by first | omega | (constructor <;> omega) | kernel_rfl) ?_)
  refine CallW.mk (c2) ?_
  try simp (config := { maxSteps := 10000000 }) only [go_sem]
  repeat (refine And.intro (by first | omega | (constructor <;> omega) | kernel_rfl) ?_)
  try simp (config := { maxSteps := 10000000 }) only [go_sem, d0]
  refine LoopG.intro _ _ _ (fun i : Nat => ⟨[(1, .sl tVec b), (5, .row 0 0), (26, .sl tVec a), (27, .sc (.int .i64 a.length)), (28, .sc (.int .i64 i))], [(0, .row 113 tVec 0 true (smI a b i))]⟩) (fun i => i ≤ a.length) (fun i => a.length - i) 0 ?_ (Nat.zero_le _) ?_
  · refine Wk.mk [] ?_
    try simp (config := { maxSteps := 10000000 }) only [go_sem]
    try (and_intros <;> first | rfl | omega | exact ⟨_, rfl⟩)
  · rintro i hi
    try simp (config := { maxSteps := 10000000 }) only [go_sem]
    refine CondW_dec (fun hA => ?_) (fun hA => ?_)
    · have hlt : i < a.length := by omega
      have hml := smI_len (a := a) (b := b) (i := i) (by omega)
      have h25 := five_mul (i := i) (n := b.length) (by omega) l2
      have e := smI_step (b := b) hlt
      have c3 := moved_fn b (nth (t := tVec) a i) (ha.ok _ (nth_mem hlt)) hb.ok (by omega)
      have hmm : (b.map (addV (nth (t := tVec) a i))).length = b.length := List.length_map ..
      try simp (config := { maxSteps := 10000000 }) only [go_sem]
      repeat (refine And.intro (by first | omega | (constructor <;> omega) | kernel_rfl) ?_)
      repeat (refine And.intro (by first | omega | (constructor <;> omega) | kernel_rfl) ?_)
      refine CallW.mk (c3) ?_
      try simp (config := { maxSteps := 10000000 }) only [go_sem]
      try simp (config := { maxSteps := 10000000 }) only [go_sem, hml, hmm]
      repeat (refine And.intro (by first | omega | (constructor <;> omega) | kernel_rfl) ?_)
      refine LoopK.mk (i + 1) ?_ (by omega) (by omega)
      rw [e]
      refine Wk.mk [] ?_
      try simp (config := { maxSteps := 10000000 }) only [go_sem]
      try (and_intros <;> first | rfl | omega | exact ⟨_, rfl⟩)
    · rw [smI_all (by omega)]
      have hp := ha.sum hb hkm
      have hsl := smV_len a b
      have pos : 0 < (smV a b).length := by
        rw [hsl]
        have := ha.poly.1.1
        have := hb.poly.1.1
        exact Nat.mul_pos (by omega) (by omega)
      have c4 := HullOf_fn (smV a b) (ha.sum_ok hb hkm) pos (by omega)
      have c5 := implIsPolygon_fn (hullD (smV a b))
      rw [polyB_t hp] at c5
      try simp (config := { maxSteps := 10000000 }) only [go_sem]
      repeat (refine And.intro (by first | omega | (constructor <;> omega) | kernel_rfl) ?_)
      refine CallW.mk (c4) ?_
      try simp (config := { maxSteps := 10000000 }) only [go_sem]
      repeat (refine And.intro (by first | omega | (constructor <;> omega) | kernel_rfl) ?_)
      refine CallW.mk (c5) ?_
      try simp (config := { maxSteps := 10000000 }) only [go_sem]
theorem addV_c (p q : DV) : addV p q = (p.1 + q.1, p.2 + q.2) := by unfold addV; rw [Int.add_comm q.1, Int.add_comm q.2]
def smJ (a b : List DV) (i j : Nat) : List DV := smI a b i ++ mapi (addV (nth (t := tVec) a i)) b j
theorem smJ_step {a b : List DV} {i j : Nat} (h : j < b.length) : smJ a b i (j + 1) = smJ a b i j ++ [((nth (t := tVec) a i).1 + (nth (t := tVec) b j).1, (nth (t := tVec) a i).2 + (nth (t := tVec) b j).2)] := by
  unfold smJ
  rw [mapi_step h, addV_c, List.append_assoc]
theorem smJ_len {a b : List DV} {i j : Nat} (h : i ≤ a.length) (hj : j ≤ b.length) : (smJ a b i j).length = i * b.length + j := by
  unfold smJ
  rw [List.length_append, smI_len h, mapi_len hj]
theorem smJ_0 (a b : List DV) (i : Nat) : smJ a b i 0 = smI a b i := by unfold smJ mapi; simp
theorem smJ_all {a b : List DV} {i j : Nat} (h : i < a.length) (hj : b.length ≤ j) : smJ a b i j = smI a b (i + 1) := by
  unfold smJ
  rw [smI_step h, mapi_all hj]
theorem SumPolygonsS_fn {k m : Int} (a b : List DV) (ha : SmP k a) (hb : SmP m b) (hkm : k + m ≤ 1000) : Fn Tryz.prog 70 [⟨.slice tVec, a⟩, ⟨.slice tVec, b⟩] true [⟨.slice tVec, hullD (smV a b)⟩] := by
  have c1 := specIsPolygon_fn a
  have c2 := specIsPolygon_fn b
  rw [polyB_t ha.poly] at c1
  rw [polyB_t hb.poly] at c2
  have hab := five_mul ha.five hb.five
  have l1 := ha.five
  have l2 := hb.five
  have hab' : (a.length : Int) * (b.length : Int) ≤ 25 := by exact_mod_cast hab
  have hab0 : (0 : Int) ≤ (a.length : Int) * (b.length : Int) := Int.mul_nonneg (by omega) (by omega)
  have d0 := decide_eq_false (p := (a.length : Int) * (b.length : Int) > 64) (by omega)
  refine fn_enter tabOK mixes Tryz.func70 rfl rfl _ Tryz.ntmps70 _ Tryz.results70 (by simp) fun hwf => ?_
  try simp (config := { maxSteps := 10000000 }) only [go_sem]
  repeat (refine And.intro (by first | omega | (constructor <;> omega) | kernel_rfl) ?_)
  refine CallW.mk (c1) ?_
  try simp (config := { maxSteps := 10000000 }) only [go_sem]
  repeat (refine And.intro (by first | omega | (constructor <;> omega) | kernel_rfl) ?_)
  refine CallW.mk (c2) ?_
  try simp (config := { maxSteps := 10000000 }) only [go_sem]
  repeat (refine And.intro (by first | omega | (constructor <;> omega) | kernel_rfl) ?_)
  try simp (config := { maxSteps := 10000000 }) only [go_sem, d0]
  refine LoopG.intro _ _ _ (fun i : Nat => ⟨[(1, .sl tVec b), (5, .row 0 0), (28, .sl tVec a), (29, .sc (.int .i64 a.length)), (30, .sc (.int .i64 i))], [(0, .row 113 tVec 0 true (smI a b i))]⟩) (fun i => i ≤ a.length) (fun i => a.length - i) 0 ?_ (Nat.zero_le _) ?_
  · refine Wk.mk [] ?_
    try simp (config := { maxSteps := 10000000 }) only [go_sem]
    try (and_intros <;> first | rfl | omega | exact ⟨_, rfl⟩)
  · rintro i hi
    try simp (config := { maxSteps := 10000000 }) only [go_sem]
    refine CondW_dec (fun hA => ?_) (fun hA => ?_)
    · have hlt : i < a.length := by omega
      have h25 := five_mul (i := i) (n := b.length) (by omega) l2
      obtain ⟨q1, q2, q3, q4⟩ := okV_b (ha.ok _ (nth_mem hlt))
      rw [← smJ_0]
      try simp (config := { maxSteps := 10000000 }) only [go_sem]
      repeat (refine And.intro (by first | omega | (constructor <;> omega) | kernel_rfl) ?_)
      refine LoopG.intro _ _ _ (fun j : Nat => ⟨[(1, .sl tVec b), (5, .row 0 0), (7, .ptr 1 0), (28, .sl tVec a), (29, .sc (.int .i64 a.length)), (30, .sc (.int .i64 i)), (34, .sl tVec b), (35, .sc (.int .i64 b.length)), (36, .sc (.int .i64 j))], [(1, .box [.sc (.int .i64 (nth (t := tVec) a i).1), .sc (.int .i64 (nth (t := tVec) a i).2)]), (0, .row 113 tVec 0 true (smJ a b i j))]⟩) (fun j => j ≤ b.length) (fun j => b.length - j) 0 ?_ (Nat.zero_le _) ?_
      · refine Wk.mk [] ?_
        try simp (config := { maxSteps := 10000000 }) only [go_sem]
        try (and_intros <;> first | rfl | omega | exact ⟨_, rfl⟩)
      · rintro j hj
        try simp (config := { maxSteps := 10000000 }) only [go_sem]
        refine CondW_dec (fun hB => ?_) (fun hB => ?_)
        · have hlt2 : j < b.length := by omega
          have hml := smJ_len (a := a) (b := b) (i := i) (j := j) (by omega) (by omega)
          have e := smJ_step (a := a) (b := b) (i := i) hlt2
          obtain ⟨b1, b2, b3, b4⟩ := okV_b (hb.ok _ (nth_mem hlt2))
          try simp (config := { maxSteps := 10000000 }) only [go_sem, hml]
          repeat (refine And.intro (by first | omega | (constructor <;> omega) | kernel_rfl) ?_)
          try simp (config := { maxSteps := 10000000 }) only [go_sem, hml]
          repeat (refine And.intro (by first | omega | (constructor <;> omega) | kernel_rfl) ?_)
          refine LoopK.mk (j + 1) ?_ (by omega) (by omega)
          rw [e]
          refine Wk.mk [] ?_
          try simp (config := { maxSteps := 10000000 }) only [go_sem]
          try (and_intros <;> first | rfl | omega | exact ⟨_, rfl⟩)
          all_goals (first | exact ⟨by omega, rfl⟩ | exact ⟨rfl, rfl⟩)
        · rw [smJ_all hlt (by omega)]
          try simp (config := { maxSteps := 10000000 }) only [go_sem]
          repeat (refine And.intro (by first | omega | (constructor <;> omega) | kernel_rfl) ?_)
          refine LoopK.mk (i + 1) ?_ (by omega) (by omega)
          refine Wk.mk [] ?_
          try simp (config := { maxSteps := 10000000 }) only [go_sem]
          try (and_intros <;> first | rfl | omega | exact ⟨_, rfl⟩)
    · rw [smI_all (by omega)]
      have hp := ha.sum hb hkm
      have hsl := smV_len a b
      have pos : 0 < (smV a b).length := by
        rw [hsl]
        have := ha.poly.1.1
        have := hb.poly.1.1
        exact Nat.mul_pos (by omega) (by omega)
      have c4 := specHull_fn (smV a b) (ha.sum_ok hb hkm) (by omega)
      have c5 := specIsPolygon_fn (hullD (smV a b))
      rw [polyB_t hp] at c5
      try simp (config := { maxSteps := 10000000 }) only [go_sem]
      repeat (refine And.intro (by first | omega | (constructor <;> omega) | kernel_rfl) ?_)
      refine CallW.mk (c4) ?_
      try simp (config := { maxSteps := 10000000 }) only [go_sem]
      repeat (refine And.intro (by first | omega | (constructor <;> omega) | kernel_rfl) ?_)
      refine CallW.mk (c5) ?_
      try simp (config := { maxSteps := 10000000 }) only [go_sem]
/-- What a robot blocks. -/
def obsD (r o : List DV) : List DV := hullD (smV o (r.map negV))
theorem ObstacleForI_fn {k m : Int} (r o : List DV) (hr : SmP k r) (ho : SmP m o) (hkm : m + k ≤ 1000) : Fn Tryz.prog 84 [⟨.slice tVec, r⟩, ⟨.slice tVec, o⟩] true [⟨.slice tVec, obsD r o⟩] := by
  have c1 := NegatePolygonI_fn r hr.ok (by have := hr.five; omega)
  have c2 := SumPolygonsI_fn o (r.map negV) ho hr.neg hkm
  unfold obsD
  refine fn_enter tabOK mixes Tryz.func84 rfl rfl _ Tryz.ntmps84 _ Tryz.results84 (by simp) fun hwf => ?_
  try simp (config := { maxSteps := 10000000 }) only [go_sem]
  repeat (refine And.intro (by first | omega | (constructor <;> omega) | kernel_rfl) ?_)
  refine CallW.mk (c1) ?_
  try simp (config := { maxSteps := 10000000 }) only [go_sem]
  repeat (refine And.intro (by first | omega | (constructor <;> omega) | kernel_rfl) ?_)
  refine CallW.mk (c2) ?_
  try simp (config := { maxSteps := 10000000 }) only [go_sem]
theorem ObstacleForS_fn {k m : Int} (r o : List DV) (hr : SmP k r) (ho : SmP m o) (hkm : m + k ≤ 1000) : Fn Tryz.prog 34 [⟨.slice tVec, r⟩, ⟨.slice tVec, o⟩] true [⟨.slice tVec, obsD r o⟩] := by
  have c1 := NegatePolygonS_fn r hr.ok (by have := hr.five; omega)
  have c2 := SumPolygonsS_fn o (r.map negV) ho hr.neg hkm
  unfold obsD
  refine fn_enter tabOK mixes Tryz.func34 rfl rfl _ Tryz.ntmps34 _ Tryz.results34 (by simp) fun hwf => ?_
  try simp (config := { maxSteps := 10000000 }) only [go_sem]
  repeat (refine And.intro (by first | omega | (constructor <;> omega) | kernel_rfl) ?_)
  refine CallW.mk (c1) ?_
  try simp (config := { maxSteps := 10000000 }) only [go_sem]
  repeat (refine And.intro (by first | omega | (constructor <;> omega) | kernel_rfl) ?_)
  refine CallW.mk (c2) ?_
  try simp (config := { maxSteps := 10000000 }) only [go_sem]
theorem obs_poly {k m : Int} {r o : List DV} (hr : SmP k r) (ho : SmP m o) (hkm : m + k ≤ 1000) : polyP (obsD r o) := ho.sum hr.neg hkm
/-- Where a point is of a polygon. -/
noncomputable def cpD (l : List DV) (p : DP) : Int := if okPt p then cntI l p l.length else -1
theorem ContainsI_fn (l : List DV) (p : DP) (hl : polyP l) : Fn Tryz.prog 86 [⟨.slice tVec, l⟩, ⟨tPoint, p⟩] false [⟨.int, cpD l p⟩] := by
  have c1 := implIsPolygon_fn l
  rw [polyB_t hl] at c1
  have c2 := arePoints1_fn p
  have hn := hl.1.2
  unfold cpD
  cases h : okPt p <;> rw [h] at c2
  · rw [if_neg (by decide)]
    refine fn_enter tabOK mixes Tryz.func86 rfl rfl _ Tryz.ntmps86 _ Tryz.results86 (by simp) fun hwf => ?_
    try simp (config := { maxSteps := 10000000 }) only [go_sem]
    repeat (refine And.intro (by first | omega | (constructor <;> omega) | kernel_rfl) ?_)
    refine CallW.mk (c1) ?_
    try simp (config := { maxSteps := 10000000 }) only [go_sem]
    repeat (refine And.intro (by first | omega | (constructor <;> omega) | kernel_rfl) ?_)
    refine CallW.mk (c2) ?_
    try simp (config := { maxSteps := 10000000 }) only [go_sem]
    all_goals repeat (refine And.intro (by first | omega | (constructor <;> omega) | kernel_rfl) ?_)
    all_goals first | kernel_rfl | omega | rfl
  · rw [if_pos rfl]
    have c3 := contains_fn l p hl.2.1 (by omega) h
    refine fn_enter tabOK mixes Tryz.func86 rfl rfl _ Tryz.ntmps86 _ Tryz.results86 (by simp) fun hwf => ?_
    try simp (config := { maxSteps := 10000000 }) only [go_sem]
    repeat (refine And.intro (by first | omega | (constructor <;> omega) | kernel_rfl) ?_)
    refine CallW.mk (c1) ?_
    try simp (config := { maxSteps := 10000000 }) only [go_sem]
    repeat (refine And.intro (by first | omega | (constructor <;> omega) | kernel_rfl) ?_)
    refine CallW.mk (c2) ?_
    try simp (config := { maxSteps := 10000000 }) only [go_sem]
    repeat (refine And.intro (by first | omega | (constructor <;> omega) | kernel_rfl) ?_)
    refine CallW.mk (c3) ?_
    try simp (config := { maxSteps := 10000000 }) only [go_sem]
    all_goals repeat (refine And.intro (by first | omega | (constructor <;> omega) | kernel_rfl) ?_)
    all_goals first | kernel_rfl | omega | rfl
theorem ContainsS_fn (l : List DV) (p : DP) (hl : polyP l) : Fn Tryz.prog 36 [⟨.slice tVec, l⟩, ⟨tPoint, p⟩] false [⟨.int, cpD l p⟩] := by
  have c1 := specIsPolygon_fn l
  rw [polyB_t hl] at c1
  have c2 := specIsValidPoint_fn p
  have hn := hl.1.2
  unfold cpD
  cases h : okPt p <;> rw [h] at c2
  · rw [if_neg (by decide)]
    refine fn_enter tabOK mixes Tryz.func36 rfl rfl _ Tryz.ntmps36 _ Tryz.results36 (by simp) fun hwf => ?_
    try simp (config := { maxSteps := 10000000 }) only [go_sem]
    repeat (refine And.intro (by first | omega | (constructor <;> omega) | kernel_rfl) ?_)
    refine CallW.mk (c1) ?_
    try simp (config := { maxSteps := 10000000 }) only [go_sem]
    repeat (refine And.intro (by first | omega | (constructor <;> omega) | kernel_rfl) ?_)
    refine CallW.mk (c2) ?_
    try simp (config := { maxSteps := 10000000 }) only [go_sem]
    all_goals repeat (refine And.intro (by first | omega | (constructor <;> omega) | kernel_rfl) ?_)
    all_goals first | kernel_rfl | omega | rfl
  · rw [if_pos rfl]
    refine fn_enter tabOK mixes Tryz.func36 rfl rfl _ Tryz.ntmps36 _ Tryz.results36 (by simp) fun hwf => ?_
    try simp (config := { maxSteps := 10000000 }) only [go_sem]
    repeat (refine And.intro (by first | omega | (constructor <;> omega) | kernel_rfl) ?_)
    refine CallW.mk (c1) ?_
    try simp (config := { maxSteps := 10000000 }) only [go_sem]
    repeat (refine And.intro (by first | omega | (constructor <;> omega) | kernel_rfl) ?_)
    refine CallW.mk (c2) ?_
    try simp (config := { maxSteps := 10000000 }) only [go_sem]
    refine LoopG.intro _ _ _ (fun i : Nat => ⟨[(0, .sl tVec l), (3, .ptr 0 0), (5, .sc (.int .i64 (cntI l p i))), (17, .sl tVec l), (18, .sc (.int .i64 l.length)), (19, .sc (.int .i64 i))], [(0, .box (cel tPoint p))]⟩) (fun i => i ≤ l.length) (fun i => l.length - i) 0 ?_ (Nat.zero_le _) ?_
    · refine Wk.mk [] ?_
      try simp (config := { maxSteps := 10000000 }) only [go_sem]
      try (and_intros <;> first | rfl | omega | exact ⟨_, rfl⟩)
    · rintro i hi
      try simp (config := { maxSteps := 10000000 }) only [go_sem]
      refine CondW_dec (fun hA => ?_) (fun hA => ?_)
      · have hlt : i < l.length := by omega
        have hr := nxt_rng (n := l.length) (i := i) (by omega)
        have hr2 : (nxt l.length i).toNat < l.length := by omega
        have c3 := PointOfS_fn (nth (t := tVec) l i)
        have c4 := PointOfS_fn (nth (t := tVec) l (nxt l.length i).toNat)
        have c5 := specSide_fn (ptV (nth (t := tVec) l i)) (ptV (nth (t := tVec) l (nxt l.length i).toNat)) p
        unfold nxt at hr hr2 c4 c5
        have hst : cntI l p (i + 1) = min (cntI l p i) (sdP (ptV (nth (t := tVec) l i)) (ptV (nth (t := tVec) l (((i : Int) + 1) % (l.length : Int)).toNat)) p) := rfl
        try simp (config := { maxSteps := 10000000 }) only [go_sem]
        repeat (refine And.intro (by first | omega | (constructor <;> omega) | kernel_rfl) ?_)
        repeat (refine And.intro (by first | omega | (constructor <;> omega) | kernel_rfl) ?_)
        refine CallW.mk (c3) ?_
        try simp (config := { maxSteps := 10000000 }) only [go_sem]
        repeat (refine And.intro (by first | omega | (constructor <;> omega) | kernel_rfl) ?_)
        refine RemW.pos (by omega) (by omega) ?_
        try simp (config := { maxSteps := 10000000 }) only [go_sem]
        repeat (refine And.intro (by first | omega | (constructor <;> omega) | kernel_rfl) ?_)
        repeat (refine And.intro (by first | omega | (constructor <;> omega) | kernel_rfl) ?_)
        refine CallW.mk (c4) ?_
        try simp (config := { maxSteps := 10000000 }) only [go_sem]
        repeat (refine And.intro (by first | omega | (constructor <;> omega) | kernel_rfl) ?_)
        refine CallW.mk (c5) ?_
        try simp (config := { maxSteps := 10000000 }) only [go_sem]
        repeat (refine And.intro (by first | omega | (constructor <;> omega) | kernel_rfl) ?_)
        refine CondW_dec (fun hB => ?_) (fun hB => ?_)
        · rw [Int.min_eq_right (by omega)] at hst
          try simp (config := { maxSteps := 10000000 }) only [go_sem]
          repeat (refine And.intro (by first | omega | (constructor <;> omega) | kernel_rfl) ?_)
          refine LoopK.mk (i + 1) ?_ (by omega) (by omega)
          rw [hst]
          refine Wk.mk [] ?_
          try simp (config := { maxSteps := 10000000 }) only [go_sem]
          try (and_intros <;> first | rfl | omega | exact ⟨_, rfl⟩)
        · rw [Int.min_eq_left (by omega)] at hst
          try simp (config := { maxSteps := 10000000 }) only [go_sem]
          repeat (refine And.intro (by first | omega | (constructor <;> omega) | kernel_rfl) ?_)
          refine LoopK.mk (i + 1) ?_ (by omega) (by omega)
          rw [hst]
          refine Wk.mk [] ?_
          try simp (config := { maxSteps := 10000000 }) only [go_sem]
          try (and_intros <;> first | rfl | omega | exact ⟨_, rfl⟩)
      · rw [show l.length = i by omega]
        try simp (config := { maxSteps := 10000000 }) only [go_sem]
        all_goals repeat (refine And.intro (by first | omega | (constructor <;> omega) | kernel_rfl) ?_)
        all_goals first | kernel_rfl | omega | rfl
end Go.Proofs.YtghckbohaghgkaaGreat.DW

/-
  Lists of numbers, fractions and points are compared.
-/
namespace Go.Proofs.YtghckbohaghgkaaGreat
open Go.RowKit

set_option maxHeartbeats 400000 in
theorem l04List_any (va vb : Value) (a b : DIntS) (w : World) (ha : Has RIntS w [va] a) (hb : Has RIntS w [vb] b) :
    Calls Tryz.prog 178 #[va, vb] w (Post (EqPost a b w)) := by
  obtain ⟨aa, ca, rfl, la, ma, ga⟩ := ha.elems
  obtain ⟨ab, cb, rfl, lb, mb, gb⟩ := hb.elems
  unfold maxLen at ma mb
  have HA := Lib.hid ga; have HB := Lib.hid gb; clear ga gb ha hb
  by_cases hl : a.length = b.length
  rotate_left
  · have hn : ((a.length : Int) != (b.length : Int)) = true := by simp; omega
    have HL := Lib.hid hl; clear hl
    go_enter Tryz.func178, Tryz.ntmps178
    go_wp2
    go_ret
    exact ⟨_, rfl, congrArg Value.bool (eqb_false fun h => HL.out (by rw [h])).symm, Below.refl _ _⟩
  have hn : ((a.length : Int) != (b.length : Int)) = false := by simp; omega
  have HL := Lib.hid hl; clear hl
  go_enter Tryz.func178, Tryz.ntmps178
  go_wp2
  go_loopw [13] (fun i wr => ∃ k : Nat, k ≤ a.length ∧ i = .int .i64 k ∧ a.take k = b.take k ∧ Below w.heap.size w wr) (fun i _ => a.length - (intOf i).toNat)
  case atStart => exact ⟨0, Nat.zero_le _, rfl, rfl, Below.refl _ _⟩
  case round =>
    obtain ⟨k, hk, rfl, htk, hbw⟩ := hrel
    have HT := Lib.hid htk; clear htk
    by_cases hlt : k < a.length
    rotate_left
    · go_wp2
      go_ret
      exact ⟨_, rfl, congrArg Value.bool (eqb_true (by have h1 := HT.out; have h2 := HL.out; rwa [List.take_of_length_le (by omega), List.take_of_length_le (by omega)] at h1)).symm, hbw⟩
    have hlt' : k < b.length := by have := HL.out; omega
    obtain ⟨b1, o1, cs1, rfl, hbl, hx, hcs⟩ := HA.out k hlt
    obtain ⟨b2, o2, cs2, rfl, hbl2, hy, hds⟩ := HB.out k hlt'
    obtain ⟨c0, rfl⟩ := list1 hx.len
    obtain ⟨d0, rfl⟩ := list1 hy.len
    obtain rfl := hx.int.1
    obtain rfl := hy.int.1
    have g0 : wr.cell? ⟨b1, o1 + k, none⟩ = some (.int .i64 a[k]) := (hbw.cell (p := ⟨b1, _, none⟩) hbl).trans (by simpa [Rp.int] using hcs 0 _ rfl)
    have e0 : wr.cell? ⟨b2, o2 + k, none⟩ = some (.int .i64 b[k]) := (hbw.cell (p := ⟨b2, _, none⟩) hbl2).trans (by simpa [Rp.int] using hds 0 _ rfl)
    clear hcs hds hx hy
    by_cases hab : a[k] = b[k]
    · have hn : (a[k] != b[k]) = false := by simp [hab]
      have HAB := Lib.hid hab; clear hab
      go_wp2
      go_quiet (fail)
      go_wp2
      go_roundw
      case rel => exact ⟨k + 1, by omega, by go_num, by rw [List.take_succ_eq_append_getElem hlt, List.take_succ_eq_append_getElem hlt', HT.out, HAB.out], hbw.drewN _⟩
      case measure => simp [intOf]; omega
    · have hn : (a[k] != b[k]) = true := by simp [hab]
      have HAB := Lib.hid hab; clear hab
      go_wp2
      go_quiet (fail)
      go_wp2
      go_ret
      exact ⟨_, rfl, congrArg Value.bool (eqb_false fun h => HAB.out (by subst h; rfl)).symm, hbw.drewN _⟩
set_option maxHeartbeats 400000 in
theorem slicesEqual_any (va vb : Value) (a b : DIntS) (w : World) (ha : Has RIntS w [va] a) (hb : Has RIntS w [vb] b) :
    Calls Tryz.prog 182 #[va, vb] w (Post (EqPost a b w)) := by
  obtain ⟨aa, ca, rfl, la, ma, ga⟩ := ha.elems
  obtain ⟨ab, cb, rfl, lb, mb, gb⟩ := hb.elems
  unfold maxLen at ma mb
  have HA := Lib.hid ga; have HB := Lib.hid gb; clear ga gb ha hb
  by_cases hl : a.length = b.length
  rotate_left
  · have hn : ((a.length : Int) != (b.length : Int)) = true := by simp; omega
    have HL := Lib.hid hl; clear hl
    go_enter Tryz.func182, Tryz.ntmps182
    go_wp2
    go_ret
    exact ⟨_, rfl, congrArg Value.bool (eqb_false fun h => HL.out (by rw [h])).symm, Below.refl _ _⟩
  have hn : ((a.length : Int) != (b.length : Int)) = false := by simp; omega
  have HL := Lib.hid hl; clear hl
  go_enter Tryz.func182, Tryz.ntmps182
  go_wp2
  go_loopw [13] (fun i wr => ∃ k : Nat, k ≤ a.length ∧ i = .int .i64 k ∧ a.take k = b.take k ∧ Below w.heap.size w wr) (fun i _ => a.length - (intOf i).toNat)
  case atStart => exact ⟨0, Nat.zero_le _, rfl, rfl, Below.refl _ _⟩
  case round =>
    obtain ⟨k, hk, rfl, htk, hbw⟩ := hrel
    have HT := Lib.hid htk; clear htk
    by_cases hlt : k < a.length
    rotate_left
    · go_wp2
      go_ret
      exact ⟨_, rfl, congrArg Value.bool (eqb_true (by have h1 := HT.out; have h2 := HL.out; rwa [List.take_of_length_le (by omega), List.take_of_length_le (by omega)] at h1)).symm, hbw⟩
    have hlt' : k < b.length := by have := HL.out; omega
    obtain ⟨b1, o1, cs1, rfl, hbl, hx, hcs⟩ := HA.out k hlt
    obtain ⟨b2, o2, cs2, rfl, hbl2, hy, hds⟩ := HB.out k hlt'
    obtain ⟨c0, rfl⟩ := list1 hx.len
    obtain ⟨d0, rfl⟩ := list1 hy.len
    obtain rfl := hx.int.1
    obtain rfl := hy.int.1
    have g0 : wr.cell? ⟨b1, o1 + k, none⟩ = some (.int .i64 a[k]) := (hbw.cell (p := ⟨b1, _, none⟩) hbl).trans (by simpa [Rp.int] using hcs 0 _ rfl)
    have e0 : wr.cell? ⟨b2, o2 + k, none⟩ = some (.int .i64 b[k]) := (hbw.cell (p := ⟨b2, _, none⟩) hbl2).trans (by simpa [Rp.int] using hds 0 _ rfl)
    clear hcs hds hx hy
    by_cases hab : a[k] = b[k]
    · have hn : (a[k] != b[k]) = false := by simp [hab]
      have HAB := Lib.hid hab; clear hab
      go_wp2
      go_quiet (fail)
      go_wp2
      go_roundw
      case rel => exact ⟨k + 1, by omega, by go_num, by rw [List.take_succ_eq_append_getElem hlt, List.take_succ_eq_append_getElem hlt', HT.out, HAB.out], hbw.drewN _⟩
      case measure => simp [intOf]; omega
    · have hn : (a[k] != b[k]) = true := by simp [hab]
      have HAB := Lib.hid hab; clear hab
      go_wp2
      go_quiet (fail)
      go_wp2
      go_ret
      exact ⟨_, rfl, congrArg Value.bool (eqb_false fun h => HAB.out (by subst h; rfl)).symm, hbw.drewN _⟩
set_option maxRecDepth 100000 in
set_option maxHeartbeats 400000 in
theorem specRatEqual_any (c0 c1 c2 d0 d1 d2 : Value) (x y : DRat) (w : World) (hx : Has RRat w [c0, c1, c2] x) (hy : Has RRat w [d0, d1, d2] y) :
    Calls Tryz.prog 132 #[.agg #[c0, c1, c2], .agg #[d0, d1, d2]] w (Post (EqPost x y w)) := by
  obtain ⟨hx0, hx1⟩ := hx.split [c0, c1] [c2] rfl
  obtain ⟨hx00, hx01⟩ := hx0.split [c0] [c1] rfl
  obtain ⟨hy0, hy1⟩ := hy.split [d0, d1] [d2] rfl
  obtain ⟨hy00, hy01⟩ := hy0.split [d0] [d1] rfl
  obtain rfl := hx00.bool
  obtain rfl := hy00.bool
  have HX1 := Lib.hid hx1; have HX2 := Lib.hid hx01; have HY1 := Lib.hid hy1; have HY2 := Lib.hid hy01
  clear hx hy hx0 hx1 hy0 hy1 hx00 hx01 hy00 hy01
  have hb0 := ((Below.refl w.heap.size w).alloc (Nat.le_refl _) (Obj.cells #[.bool x.1.1, c1, c2] 40)).alloc (by simp <;> omega) (Obj.cells #[.bool y.1.1, d1, d2] 40)
  by_cases he0 : x.1.1 = y.1.1
  rotate_left
  · have hn : (x.1.1 == y.1.1) = false := by simp [he0]
    have HN := Lib.hid he0; clear he0
    go_enter Tryz.func132, Tryz.ntmps132
    go_wp2
    go_ret
    exact ⟨_, rfl, congrArg Value.bool (eqb_false fun h => HN.out (by rw [h])).symm, hb0⟩
  have hn0 : (x.1.1 == y.1.1) = true := by simp [he0]
  have HE0 := Lib.hid he0; clear he0
  go_enter Tryz.func132, Tryz.ntmps132
  go_wp2_with fail
  refine (l04List_any _ _ _ _ _ (HX2.out.below hb0) (HY2.out.below hb0)).mono ?_
  rintro e w1 ⟨v, rfl, rfl, hbx1⟩
  have hb1 := Below.up hb0 hbx1 hb0.size
  obtain ⟨hc1, hf1⟩ := bcell hbx1
  by_cases he1 : x.1.2 = y.1.2
  rotate_left
  · rw [eqb_false he1]
    have HN := Lib.hid he1; clear he1
    go_wp2
    go_ret
    exact ⟨_, rfl, congrArg Value.bool (eqb_false fun h => HN.out (by rw [h])).symm, hb1⟩
  rw [eqb_true he1]
  have HE1 := Lib.hid he1; clear he1
  go_wp2_with fail
  refine (l04List_any _ _ _ _ _ (HX1.out.below hb1) (HY1.out.below hb1)).mono ?_
  rintro e w2 ⟨v, rfl, rfl, hbx2⟩
  have hb2 := Below.up hb1 hbx2 hb1.size
  by_cases he2 : x.2 = y.2
  rotate_left
  · rw [eqb_false he2]
    have HN := Lib.hid he2; clear he2
    go_wp2
    go_ret
    exact ⟨_, rfl, congrArg Value.bool (eqb_false fun h => HN.out (by rw [h])).symm, hb2⟩
  rw [eqb_true he2]
  have HE2 := Lib.hid he2; clear he2
  go_wp2
  go_ret
  exact ⟨_, rfl, congrArg Value.bool (eqb_true (Prod.ext (Prod.ext HE0.out HE1.out) HE2.out)).symm, hb2⟩
set_option maxRecDepth 100000 in
set_option maxHeartbeats 400000 in
theorem implRatEqual_any (c0 c1 c2 d0 d1 d2 : Value) (x y : DRat) (w : World) (hx : Has RRat w [c0, c1, c2] x) (hy : Has RRat w [d0, d1, d2] y) :
    Calls Tryz.prog 138 #[.agg #[c0, c1, c2], .agg #[d0, d1, d2]] w (Post (EqPost x y w)) := by
  obtain ⟨hx0, hx1⟩ := hx.split [c0, c1] [c2] rfl
  obtain ⟨hx00, hx01⟩ := hx0.split [c0] [c1] rfl
  obtain ⟨hy0, hy1⟩ := hy.split [d0, d1] [d2] rfl
  obtain ⟨hy00, hy01⟩ := hy0.split [d0] [d1] rfl
  obtain rfl := hx00.bool
  obtain rfl := hy00.bool
  have HX1 := Lib.hid hx1; have HX2 := Lib.hid hx01; have HY1 := Lib.hid hy1; have HY2 := Lib.hid hy01
  clear hx hy hx0 hx1 hy0 hy1 hx00 hx01 hy00 hy01
  have hb0 := ((Below.refl w.heap.size w).alloc (Nat.le_refl _) (Obj.cells #[.bool x.1.1, c1, c2] 40)).alloc (by simp <;> omega) (Obj.cells #[.bool y.1.1, d1, d2] 40)
  by_cases he0 : x.1.1 = y.1.1
  rotate_left
  · have hn : (x.1.1 == y.1.1) = false := by simp [he0]
    have HN := Lib.hid he0; clear he0
    go_enter Tryz.func138, Tryz.ntmps138
    go_wp2
    go_ret
    exact ⟨_, rfl, congrArg Value.bool (eqb_false fun h => HN.out (by rw [h])).symm, hb0⟩
  have hn0 : (x.1.1 == y.1.1) = true := by simp [he0]
  have HE0 := Lib.hid he0; clear he0
  go_enter Tryz.func138, Tryz.ntmps138
  go_wp2_with fail
  refine (slicesEqual_any _ _ _ _ _ (HX2.out.below hb0) (HY2.out.below hb0)).mono ?_
  rintro e w1 ⟨v, rfl, rfl, hbx1⟩
  have hb1 := Below.up hb0 hbx1 hb0.size
  obtain ⟨hc1, hf1⟩ := bcell hbx1
  by_cases he1 : x.1.2 = y.1.2
  rotate_left
  · rw [eqb_false he1]
    have HN := Lib.hid he1; clear he1
    go_wp2
    go_ret
    exact ⟨_, rfl, congrArg Value.bool (eqb_false fun h => HN.out (by rw [h])).symm, hb1⟩
  rw [eqb_true he1]
  have HE1 := Lib.hid he1; clear he1
  go_wp2_with fail
  refine (slicesEqual_any _ _ _ _ _ (HX1.out.below hb1) (HY1.out.below hb1)).mono ?_
  rintro e w2 ⟨v, rfl, rfl, hbx2⟩
  have hb2 := Below.up hb1 hbx2 hb1.size
  by_cases he2 : x.2 = y.2
  rotate_left
  · rw [eqb_false he2]
    have HN := Lib.hid he2; clear he2
    go_wp2
    go_ret
    exact ⟨_, rfl, congrArg Value.bool (eqb_false fun h => HN.out (by rw [h])).symm, hb2⟩
  rw [eqb_true he2]
  have HE2 := Lib.hid he2; clear he2
  go_wp2
  go_ret
  exact ⟨_, rfl, congrArg Value.bool (eqb_true (Prod.ext (Prod.ext HE0.out HE1.out) HE2.out)).symm, hb2⟩
set_option maxRecDepth 100000 in
set_option maxHeartbeats 400000 in
theorem specSamePoint_any (c0 c1 c2 c3 c4 c5 d0 d1 d2 d3 d4 d5 : Value) (x y : DPoint) (w : World) (hx : Has RPoint w [c0, c1, c2, c3, c4, c5] x) (hy : Has RPoint w [d0, d1, d2, d3, d4, d5] y) :
    Calls Tryz.prog 93 #[.agg #[c0, c1, c2, c3, c4, c5], .agg #[d0, d1, d2, d3, d4, d5]] w (Post (EqPost x y w)) := by
  obtain ⟨hx0, hx1⟩ := hx.split [c0, c1, c2] [c3, c4, c5] rfl
  obtain ⟨hy0, hy1⟩ := hy.split [d0, d1, d2] [d3, d4, d5] rfl
  have HX0 := Lib.hid hx0; have HX1 := Lib.hid hx1; have HY0 := Lib.hid hy0; have HY1 := Lib.hid hy1
  clear hx hy hx0 hx1 hy0 hy1
  have hb0 := ((Below.refl w.heap.size w).alloc (Nat.le_refl _) (Obj.cells #[c0, c1, c2, c3, c4, c5] 42)).alloc (by simp <;> omega) (Obj.cells #[d0, d1, d2, d3, d4, d5] 42)
  go_enter Tryz.func93, Tryz.ntmps93
  go_wp2_with fail
  refine (specRatEqual_any _ _ _ _ _ _ _ _ _ (HX0.out.below hb0) (HY0.out.below hb0)).mono ?_
  rintro e w1 ⟨v, rfl, rfl, hbx1⟩
  have hb1 := Below.up hb0 hbx1 hb0.size
  obtain ⟨hc1, hf1⟩ := bcell hbx1
  by_cases he1 : x.1 = y.1
  rotate_left
  · rw [eqb_false he1]
    have HN := Lib.hid he1; clear he1
    go_wp2
    go_ret
    exact ⟨_, rfl, congrArg Value.bool (eqb_false fun h => HN.out (by rw [h])).symm, hb1⟩
  rw [eqb_true he1]
  have HE1 := Lib.hid he1; clear he1
  go_wp2_with fail
  refine (specRatEqual_any _ _ _ _ _ _ _ _ _ (HX1.out.below hb1) (HY1.out.below hb1)).mono ?_
  rintro e w2 ⟨v, rfl, rfl, hbx2⟩
  have hb2 := Below.up hb1 hbx2 hb1.size
  by_cases he2 : x.2 = y.2
  rotate_left
  · rw [eqb_false he2]
    have HN := Lib.hid he2; clear he2
    go_wp2
    go_ret
    exact ⟨_, rfl, congrArg Value.bool (eqb_false fun h => HN.out (by rw [h])).symm, hb2⟩
  rw [eqb_true he2]
  have HE2 := Lib.hid he2; clear he2
  go_wp2
  go_ret
  exact ⟨_, rfl, congrArg Value.bool (eqb_true (Prod.ext HE1.out HE2.out)).symm, hb2⟩
set_option maxRecDepth 100000 in
set_option maxHeartbeats 400000 in
theorem implSamePoint_any (c0 c1 c2 c3 c4 c5 d0 d1 d2 d3 d4 d5 : Value) (x y : DPoint) (w : World) (hx : Has RPoint w [c0, c1, c2, c3, c4, c5] x) (hy : Has RPoint w [d0, d1, d2, d3, d4, d5] y) :
    Calls Tryz.prog 98 #[.agg #[c0, c1, c2, c3, c4, c5], .agg #[d0, d1, d2, d3, d4, d5]] w (Post (EqPost x y w)) := by
  obtain ⟨hx0, hx1⟩ := hx.split [c0, c1, c2] [c3, c4, c5] rfl
  obtain ⟨hy0, hy1⟩ := hy.split [d0, d1, d2] [d3, d4, d5] rfl
  have HX0 := Lib.hid hx0; have HX1 := Lib.hid hx1; have HY0 := Lib.hid hy0; have HY1 := Lib.hid hy1
  clear hx hy hx0 hx1 hy0 hy1
  have hb0 := ((Below.refl w.heap.size w).alloc (Nat.le_refl _) (Obj.cells #[c0, c1, c2, c3, c4, c5] 42)).alloc (by simp <;> omega) (Obj.cells #[d0, d1, d2, d3, d4, d5] 42)
  go_enter Tryz.func98, Tryz.ntmps98
  go_wp2_with fail
  refine (implRatEqual_any _ _ _ _ _ _ _ _ _ (HX0.out.below hb0) (HY0.out.below hb0)).mono ?_
  rintro e w1 ⟨v, rfl, rfl, hbx1⟩
  have hb1 := Below.up hb0 hbx1 hb0.size
  obtain ⟨hc1, hf1⟩ := bcell hbx1
  by_cases he1 : x.1 = y.1
  rotate_left
  · rw [eqb_false he1]
    have HN := Lib.hid he1; clear he1
    go_wp2
    go_ret
    exact ⟨_, rfl, congrArg Value.bool (eqb_false fun h => HN.out (by rw [h])).symm, hb1⟩
  rw [eqb_true he1]
  have HE1 := Lib.hid he1; clear he1
  go_wp2_with fail
  refine (implRatEqual_any _ _ _ _ _ _ _ _ _ (HX1.out.below hb1) (HY1.out.below hb1)).mono ?_
  rintro e w2 ⟨v, rfl, rfl, hbx2⟩
  have hb2 := Below.up hb1 hbx2 hb1.size
  by_cases he2 : x.2 = y.2
  rotate_left
  · rw [eqb_false he2]
    have HN := Lib.hid he2; clear he2
    go_wp2
    go_ret
    exact ⟨_, rfl, congrArg Value.bool (eqb_false fun h => HN.out (by rw [h])).symm, hb2⟩
  rw [eqb_true he2]
  have HE2 := Lib.hid he2; clear he2
  go_wp2
  go_ret
  exact ⟨_, rfl, congrArg Value.bool (eqb_true (Prod.ext HE1.out HE2.out)).symm, hb2⟩
end Go.Proofs.YtghckbohaghgkaaGreat

/-
  Tours: validity.
-/
namespace Go.Proofs.YtghckbohaghgkaaGreat.DW
open Go.RowKit
abbrev DT : Type := List DV × (DS × List DS)
theorem implSame_fn (p q : DP) : Fn Tryz.prog 98 [⟨tPoint, p⟩, ⟨tPoint, q⟩] false [⟨.bool, eqb p q⟩] := by
  refine Fn.ofEq (enters Tryz.func98 rfl rfl) fun w v cs u ds hp hx hq hy => ?_
  obtain rfl := pk_agg rfl hp
  obtain ⟨c0, c1, c2, c3, c4, c5, rfl⟩ := list6 hx.len
  obtain rfl := pk_agg rfl hq
  obtain ⟨d0, d1, d2, d3, d4, d5, rfl⟩ := list6 hy.len
  exact implSamePoint_any _ _ _ _ _ _ _ _ _ _ _ _ p q w hx hy
theorem specSame_fn (p q : DP) : Fn Tryz.prog 93 [⟨tPoint, p⟩, ⟨tPoint, q⟩] false [⟨.bool, eqb p q⟩] := by
  refine Fn.ofEq (enters Tryz.func93 rfl rfl) fun w v cs u ds hp hx hq hy => ?_
  obtain rfl := pk_agg rfl hp
  obtain ⟨c0, c1, c2, c3, c4, c5, rfl⟩ := list6 hx.len
  obtain rfl := pk_agg rfl hq
  obtain ⟨d0, d1, d2, d3, d4, d5, rfl⟩ := list6 hy.len
  exact specSamePoint_any _ _ _ _ _ _ _ _ _ _ _ _ p q w hx hy
theorem l22Turn_fn (n : Int) : Fn Tryz.prog 92 [⟨.int, n⟩] false [⟨.bool, decide (-1 ≤ n ∧ n ≤ 1)⟩] := by
  refine fn_enter tabOK mixes Tryz.func92 rfl rfl _ Tryz.ntmps92 _ Tryz.results92 (by simp) fun hwf => ?_
  try simp (config := { maxSteps := 10000000 }) only [go_sem]
  repeat (refine And.intro (by first | omega | (constructor <;> omega) | kernel_rfl) ?_)
  refine CallW.mk (l01In_fn n (-1) 1) ?_
  try simp (config := { maxSteps := 10000000 }) only [go_sem]
/-- A step that a tour may have. -/
noncomputable def tvStep (p x : DS) : Bool := decide (-1 ≤ x.1 ∧ x.1 ≤ 1) && (okPt x.2 && (decide (x.1 = 0) || eqb x.2 p.2))
noncomputable def tvGo : DS → List DS → Bool
  | _, [] => true
  | p, x :: l => tvStep p x && tvGo (stp p x) l
noncomputable def plcF (p : DS) (l : List DS) : DS := l.foldl stp p
/-- The placement behind the first i steps. -/
noncomputable def plcS (p : DS) (l : List DS) (i : Nat) : DS := plcF p (l.take i)
theorem plcS_step (p : DS) {l : List DS} {i : Nat} (h : i < l.length) : plcS p l (i + 1) = stp (plcS p l i) (nth (t := tStep) l i) := by
  unfold plcS plcF
  rw [List.take_succ_eq_append_getElem h, nth_lt h]
  simp only [List.foldl_append, List.foldl_cons, List.foldl_nil]
theorem tvGo_at {p : DS} {l : List DS} {i : Nat} (h : i < l.length) : tvGo p (l.drop i) = (tvStep p (nth (t := tStep) l i) && tvGo (stp p (nth (t := tStep) l i)) (l.drop (i + 1))) := by
  rw [List.drop_eq_getElem_cons h, nth_lt h]; rfl
noncomputable def tourB (t : DT) : Bool := smB t.1 20 && (decide (0 ≤ t.2.1.1 ∧ t.2.1.1 ≤ 3) && (okPt t.2.1.2 && (decide ((t.2.2.length : Int) ≤ 8) && tvGo t.2.1 t.2.2)))
theorem implIsValidTour_fn (t : DT) : Fn Tryz.prog 49 [⟨tTour, t⟩] false [⟨.bool, tourB t⟩] := by
  obtain ⟨r, p, l⟩ := t
  have c1 := isSmall_fn r 20 (by decide)
  have c2 := isHeading_fn p.1
  have c3 := arePoints1_fn p.2
  unfold tourB
  cases h1 : smB r 20 <;> rw [h1] at c1
  · refine fn_enter tabOK mixes Tryz.func49 rfl rfl _ Tryz.ntmps49 _ Tryz.results49 (by simp) fun hwf => ?_
    try simp (config := { maxSteps := 10000000 }) only [go_sem]
    repeat (refine And.intro (by first | omega | (constructor <;> omega) | kernel_rfl) ?_)
    refine CallW.mk (c1) ?_
    try simp (config := { maxSteps := 10000000 }) only [go_sem]
  · cases h2 : decide (0 ≤ p.1 ∧ p.1 ≤ 3) <;> rw [h2] at c2
    · refine fn_enter tabOK mixes Tryz.func49 rfl rfl _ Tryz.ntmps49 _ Tryz.results49 (by simp) fun hwf => ?_
      try simp (config := { maxSteps := 10000000 }) only [go_sem]
      repeat (refine And.intro (by first | omega | (constructor <;> omega) | kernel_rfl) ?_)
      refine CallW.mk (c1) ?_
      try simp (config := { maxSteps := 10000000 }) only [go_sem]
      repeat (refine And.intro (by first | omega | (constructor <;> omega) | kernel_rfl) ?_)
      refine CallW.mk (c2) ?_
      try simp (config := { maxSteps := 10000000 }) only [go_sem]
    · cases h3 : okPt p.2 <;> rw [h3] at c3
      · refine fn_enter tabOK mixes Tryz.func49 rfl rfl _ Tryz.ntmps49 _ Tryz.results49 (by simp) fun hwf => ?_
        try simp (config := { maxSteps := 10000000 }) only [go_sem]
        repeat (refine And.intro (by first | omega | (constructor <;> omega) | kernel_rfl) ?_)
        refine CallW.mk (c1) ?_
        try simp (config := { maxSteps := 10000000 }) only [go_sem]
        repeat (refine And.intro (by first | omega | (constructor <;> omega) | kernel_rfl) ?_)
        refine CallW.mk (c2) ?_
        try simp (config := { maxSteps := 10000000 }) only [go_sem]
        repeat (refine And.intro (by first | omega | (constructor <;> omega) | kernel_rfl) ?_)
        refine CallW.mk (c3) ?_
        try simp (config := { maxSteps := 10000000 }) only [go_sem]
      · by_cases h4 : (l.length : Int) ≤ 8
        · have d4 : decide ((8 : Int) < l.length) = false := decide_eq_false (by omega)
          rw [decide_eq_true h4]
          refine fn_enter tabOK mixes Tryz.func49 rfl rfl _ Tryz.ntmps49 _ Tryz.results49 (by simp) fun hwf => ?_
          try simp (config := { maxSteps := 10000000 }) only [go_sem]
          repeat (refine And.intro (by first | omega | (constructor <;> omega) | kernel_rfl) ?_)
          refine CallW.mk (c1) ?_
          try simp (config := { maxSteps := 10000000 }) only [go_sem]
          repeat (refine And.intro (by first | omega | (constructor <;> omega) | kernel_rfl) ?_)
          refine CallW.mk (c2) ?_
          try simp (config := { maxSteps := 10000000 }) only [go_sem]
          repeat (refine And.intro (by first | omega | (constructor <;> omega) | kernel_rfl) ?_)
          refine CallW.mk (c3) ?_
          try simp (config := { maxSteps := 10000000 }) only [go_sem]
          try simp (config := { maxSteps := 10000000 }) only [go_sem, d4]
          refine LoopG.intro _ _ _ (fun i : Nat => ⟨[(3, .ptr 2 0), (34, .sl tStep l), (35, .sc (.int .i64 l.length)), (36, .sc (.int .i64 i))], [(2, .box [.sc (.int .i64 (plcS p l i).1), .sc (.bool (plcS p l i).2.1.1.1), .sl .int (plcS p l i).2.1.1.2, .sl .int (plcS p l i).2.1.2, .sc (.bool (plcS p l i).2.2.1.1), .sl .int (plcS p l i).2.2.1.2, .sl .int (plcS p l i).2.2.2])]⟩) (fun i => tvGo p l = tvGo (plcS p l i) (l.drop i)) (fun i => l.length - i) 0 ?_ rfl ?_
          · refine Wk.mk [] ?_
            try simp (config := { maxSteps := 10000000 }) only [go_sem]
            try (and_intros <;> first | rfl | omega | exact ⟨_, rfl⟩)
          · rintro i hi
            try simp (config := { maxSteps := 10000000 }) only [go_sem]
            refine CondW_dec (fun hA => ?_) (fun hA => ?_)
            · have hst := plcS_step p (show i < l.length by omega)
              rw [tvGo_at (by omega)] at hi
              have c4 := within_fn (nth (t := tStep) l i).1 (-1) 1
              have c5 := arePoints1_fn (nth (t := tStep) l i).2
              have c6 := implSame_fn (nth (t := tStep) l i).2 (plcS p l i).2
              have c7 := stepped_fn (plcS p l i) (nth (t := tStep) l i)
              generalize hq : plcS p l i = q at hi hst c6 c7 ⊢
              cases e1 : decide (-1 ≤ (nth (t := tStep) l i).1 ∧ (nth (t := tStep) l i).1 ≤ 1) <;> rw [e1] at c4
              · have e0 : tvStep q (nth (t := tStep) l i) = false := by unfold tvStep; rw [e1]; rfl
                rw [e0] at hi
                rw [hi]
                try simp (config := { maxSteps := 10000000 }) only [go_sem]
                repeat (refine And.intro (by first | omega | (constructor <;> omega) | kernel_rfl) ?_)
                repeat (refine And.intro (by first | omega | (constructor <;> omega) | kernel_rfl) ?_)
                refine CallW.mk (c4) ?_
                try simp (config := { maxSteps := 10000000 }) only [go_sem]
              · cases e2 : okPt (nth (t := tStep) l i).2 <;> rw [e2] at c5
                · have e0 : tvStep q (nth (t := tStep) l i) = false := by unfold tvStep; rw [e1, e2]; rfl
                  rw [e0] at hi
                  rw [hi]
                  try simp (config := { maxSteps := 10000000 }) only [go_sem]
                  repeat (refine And.intro (by first | omega | (constructor <;> omega) | kernel_rfl) ?_)
                  repeat (refine And.intro (by first | omega | (constructor <;> omega) | kernel_rfl) ?_)
                  refine CallW.mk (c4) ?_
                  try simp (config := { maxSteps := 10000000 }) only [go_sem]
                  repeat (refine And.intro (by first | omega | (constructor <;> omega) | kernel_rfl) ?_)
                  refine CallW.mk (c5) ?_
                  try simp (config := { maxSteps := 10000000 }) only [go_sem]
                · by_cases e3 : (nth (t := tStep) l i).1 = 0
                  · have e0 : tvStep q (nth (t := tStep) l i) = true := by unfold tvStep; rw [e1, e2, decide_eq_true e3]; rfl
                    have d3 := decide_eq_true e3
                    rw [e0, Bool.true_and, ← hst] at hi
                    try simp (config := { maxSteps := 10000000 }) only [go_sem]
                    repeat (refine And.intro (by first | omega | (constructor <;> omega) | kernel_rfl) ?_)
                    repeat (refine And.intro (by first | omega | (constructor <;> omega) | kernel_rfl) ?_)
                    refine CallW.mk (c4) ?_
                    try simp (config := { maxSteps := 10000000 }) only [go_sem]
                    repeat (refine And.intro (by first | omega | (constructor <;> omega) | kernel_rfl) ?_)
                    refine CallW.mk (c5) ?_
                    try simp (config := { maxSteps := 10000000 }) only [go_sem]
                    try simp (config := { maxSteps := 10000000 }) only [go_sem, d3]
                    repeat (refine And.intro (by first | omega | (constructor <;> omega) | kernel_rfl) ?_)
                    refine CallW.mk (c7) ?_
                    try simp (config := { maxSteps := 10000000 }) only [go_sem]
                    repeat (refine And.intro (by first | omega | (constructor <;> omega) | kernel_rfl) ?_)
                    refine LoopK.mk (i + 1) ?_ hi (by omega)
                    rw [hst]
                    refine Wk.mk [] ?_
                    try simp (config := { maxSteps := 10000000 }) only [go_sem]
                    try (and_intros <;> first | rfl | omega | exact ⟨_, rfl⟩)
                  · have d3 := decide_eq_false e3
                    cases e4 : eqb (nth (t := tStep) l i).2 q.2 <;> rw [e4] at c6
                    · have e0 : tvStep q (nth (t := tStep) l i) = false := by unfold tvStep; rw [e1, e2, d3, e4]; rfl
                      rw [e0] at hi
                      rw [hi]
                      try simp (config := { maxSteps := 10000000 }) only [go_sem]
                      repeat (refine And.intro (by first | omega | (constructor <;> omega) | kernel_rfl) ?_)
                      repeat (refine And.intro (by first | omega | (constructor <;> omega) | kernel_rfl) ?_)
                      refine CallW.mk (c4) ?_
                      try simp (config := { maxSteps := 10000000 }) only [go_sem]
                      repeat (refine And.intro (by first | omega | (constructor <;> omega) | kernel_rfl) ?_)
                      refine CallW.mk (c5) ?_
                      try simp (config := { maxSteps := 10000000 }) only [go_sem]
                      try simp (config := { maxSteps := 10000000 }) only [go_sem, d3]
                      repeat (refine And.intro (by first | omega | (constructor <;> omega) | kernel_rfl) ?_)
                      refine CallW.mk (c6) ?_
                      try simp (config := { maxSteps := 10000000 }) only [go_sem]
                    · have e0 : tvStep q (nth (t := tStep) l i) = true := by unfold tvStep; rw [e1, e2, d3, e4]; rfl
                      rw [e0, Bool.true_and, ← hst] at hi
                      try simp (config := { maxSteps := 10000000 }) only [go_sem]
                      repeat (refine And.intro (by first | omega | (constructor <;> omega) | kernel_rfl) ?_)
                      repeat (refine And.intro (by first | omega | (constructor <;> omega) | kernel_rfl) ?_)
                      refine CallW.mk (c4) ?_
                      try simp (config := { maxSteps := 10000000 }) only [go_sem]
                      repeat (refine And.intro (by first | omega | (constructor <;> omega) | kernel_rfl) ?_)
                      refine CallW.mk (c5) ?_
                      try simp (config := { maxSteps := 10000000 }) only [go_sem]
                      try simp (config := { maxSteps := 10000000 }) only [go_sem, d3]
                      repeat (refine And.intro (by first | omega | (constructor <;> omega) | kernel_rfl) ?_)
                      refine CallW.mk (c6) ?_
                      try simp (config := { maxSteps := 10000000 }) only [go_sem]
                      repeat (refine And.intro (by first | omega | (constructor <;> omega) | kernel_rfl) ?_)
                      refine CallW.mk (c7) ?_
                      try simp (config := { maxSteps := 10000000 }) only [go_sem]
                      repeat (refine And.intro (by first | omega | (constructor <;> omega) | kernel_rfl) ?_)
                      refine LoopK.mk (i + 1) ?_ hi (by omega)
                      rw [hst]
                      refine Wk.mk [] ?_
                      try simp (config := { maxSteps := 10000000 }) only [go_sem]
                      try (and_intros <;> first | rfl | omega | exact ⟨_, rfl⟩)
            · rw [hi, List.drop_eq_nil_of_le (by omega), show tvGo (plcS p l i) [] = true from rfl]
              try simp (config := { maxSteps := 10000000 }) only [go_sem]
        · have d4 : decide ((8 : Int) < l.length) = true := decide_eq_true (by omega)
          rw [decide_eq_false h4]
          refine fn_enter tabOK mixes Tryz.func49 rfl rfl _ Tryz.ntmps49 _ Tryz.results49 (by simp) fun hwf => ?_
          try simp (config := { maxSteps := 10000000 }) only [go_sem]
          repeat (refine And.intro (by first | omega | (constructor <;> omega) | kernel_rfl) ?_)
          refine CallW.mk (c1) ?_
          try simp (config := { maxSteps := 10000000 }) only [go_sem]
          repeat (refine And.intro (by first | omega | (constructor <;> omega) | kernel_rfl) ?_)
          refine CallW.mk (c2) ?_
          try simp (config := { maxSteps := 10000000 }) only [go_sem]
          repeat (refine And.intro (by first | omega | (constructor <;> omega) | kernel_rfl) ?_)
          refine CallW.mk (c3) ?_
          try simp (config := { maxSteps := 10000000 }) only [go_sem]
          try simp (config := { maxSteps := 10000000 }) only [go_sem, d4]
theorem specIsValidTour_fn (t : DT) : Fn Tryz.prog 46 [⟨tTour, t⟩] false [⟨.bool, tourB t⟩] := by
  obtain ⟨r, p, l⟩ := t
  have c1 := l10Shape_fn r 20 (by decide)
  have c2 := l01In_fn p.1 0 3
  have c3 := specIsValidPoint_fn p.2
  unfold tourB
  cases h1 : smB r 20 <;> rw [h1] at c1
  · refine fn_enter tabOK mixes Tryz.func46 rfl rfl _ Tryz.ntmps46 _ Tryz.results46 (by simp) fun hwf => ?_
    try simp (config := { maxSteps := 10000000 }) only [go_sem]
    repeat (refine And.intro (by first | omega | (constructor <;> omega) | kernel_rfl) ?_)
    refine CallW.mk (c1) ?_
    try simp (config := { maxSteps := 10000000 }) only [go_sem]
  · cases h2 : decide (0 ≤ p.1 ∧ p.1 ≤ 3) <;> rw [h2] at c2
    · refine fn_enter tabOK mixes Tryz.func46 rfl rfl _ Tryz.ntmps46 _ Tryz.results46 (by simp) fun hwf => ?_
      try simp (config := { maxSteps := 10000000 }) only [go_sem]
      repeat (refine And.intro (by first | omega | (constructor <;> omega) | kernel_rfl) ?_)
      refine CallW.mk (c1) ?_
      try simp (config := { maxSteps := 10000000 }) only [go_sem]
      repeat (refine And.intro (by first | omega | (constructor <;> omega) | kernel_rfl) ?_)
      refine CallW.mk (c2) ?_
      try simp (config := { maxSteps := 10000000 }) only [go_sem]
    · cases h3 : okPt p.2 <;> rw [h3] at c3
      · refine fn_enter tabOK mixes Tryz.func46 rfl rfl _ Tryz.ntmps46 _ Tryz.results46 (by simp) fun hwf => ?_
        try simp (config := { maxSteps := 10000000 }) only [go_sem]
        repeat (refine And.intro (by first | omega | (constructor <;> omega) | kernel_rfl) ?_)
        refine CallW.mk (c1) ?_
        try simp (config := { maxSteps := 10000000 }) only [go_sem]
        repeat (refine And.intro (by first | omega | (constructor <;> omega) | kernel_rfl) ?_)
        refine CallW.mk (c2) ?_
        try simp (config := { maxSteps := 10000000 }) only [go_sem]
        repeat (refine And.intro (by first | omega | (constructor <;> omega) | kernel_rfl) ?_)
        refine CallW.mk (c3) ?_
        try simp (config := { maxSteps := 10000000 }) only [go_sem]
      · by_cases h4 : (l.length : Int) ≤ 8
        · have d4 : decide ((8 : Int) < l.length) = false := decide_eq_false (by omega)
          rw [decide_eq_true h4]
          refine fn_enter tabOK mixes Tryz.func46 rfl rfl _ Tryz.ntmps46 _ Tryz.results46 (by simp) fun hwf => ?_
          try simp (config := { maxSteps := 10000000 }) only [go_sem]
          repeat (refine And.intro (by first | omega | (constructor <;> omega) | kernel_rfl) ?_)
          refine CallW.mk (c1) ?_
          try simp (config := { maxSteps := 10000000 }) only [go_sem]
          repeat (refine And.intro (by first | omega | (constructor <;> omega) | kernel_rfl) ?_)
          refine CallW.mk (c2) ?_
          try simp (config := { maxSteps := 10000000 }) only [go_sem]
          repeat (refine And.intro (by first | omega | (constructor <;> omega) | kernel_rfl) ?_)
          refine CallW.mk (c3) ?_
          try simp (config := { maxSteps := 10000000 }) only [go_sem]
          try simp (config := { maxSteps := 10000000 }) only [go_sem, d4]
          refine LoopG.intro _ _ _ (fun i : Nat => ⟨[(3, .ptr 1 0), (33, .sl tStep l), (34, .sc (.int .i64 l.length)), (35, .sc (.int .i64 i))], [(1, .box [.sc (.int .i64 (plcS p l i).1), .sc (.bool (plcS p l i).2.1.1.1), .sl .int (plcS p l i).2.1.1.2, .sl .int (plcS p l i).2.1.2, .sc (.bool (plcS p l i).2.2.1.1), .sl .int (plcS p l i).2.2.1.2, .sl .int (plcS p l i).2.2.2])]⟩) (fun i => tvGo p l = tvGo (plcS p l i) (l.drop i)) (fun i => l.length - i) 0 ?_ rfl ?_
          · refine Wk.mk [] ?_
            try simp (config := { maxSteps := 10000000 }) only [go_sem]
            try (and_intros <;> first | rfl | omega | exact ⟨_, rfl⟩)
          · rintro i hi
            try simp (config := { maxSteps := 10000000 }) only [go_sem]
            refine CondW_dec (fun hA => ?_) (fun hA => ?_)
            · have hst := plcS_step p (show i < l.length by omega)
              rw [tvGo_at (by omega)] at hi
              have c4 := l22Turn_fn (nth (t := tStep) l i).1
              have c5 := specIsValidPoint_fn (nth (t := tStep) l i).2
              have c6 := specSame_fn (nth (t := tStep) l i).2 (plcS p l i).2
              have c7 := l22After_fn (plcS p l i) (nth (t := tStep) l i)
              generalize hq : plcS p l i = q at hi hst c6 c7 ⊢
              cases e1 : decide (-1 ≤ (nth (t := tStep) l i).1 ∧ (nth (t := tStep) l i).1 ≤ 1) <;> rw [e1] at c4
              · have e0 : tvStep q (nth (t := tStep) l i) = false := by unfold tvStep; rw [e1]; rfl
                rw [e0] at hi
                rw [hi]
                try simp (config := { maxSteps := 10000000 }) only [go_sem]
                repeat (refine And.intro (by first | omega | (constructor <;> omega) | kernel_rfl) ?_)
                repeat (refine And.intro (by first | omega | (constructor <;> omega) | kernel_rfl) ?_)
                refine CallW.mk (c4) ?_
                try simp (config := { maxSteps := 10000000 }) only [go_sem]
              · cases e2 : okPt (nth (t := tStep) l i).2 <;> rw [e2] at c5
                · have e0 : tvStep q (nth (t := tStep) l i) = false := by unfold tvStep; rw [e1, e2]; rfl
                  rw [e0] at hi
                  rw [hi]
                  try simp (config := { maxSteps := 10000000 }) only [go_sem]
                  repeat (refine And.intro (by first | omega | (constructor <;> omega) | kernel_rfl) ?_)
                  repeat (refine And.intro (by first | omega | (constructor <;> omega) | kernel_rfl) ?_)
                  refine CallW.mk (c4) ?_
                  try simp (config := { maxSteps := 10000000 }) only [go_sem]
                  repeat (refine And.intro (by first | omega | (constructor <;> omega) | kernel_rfl) ?_)
                  refine CallW.mk (c5) ?_
                  try simp (config := { maxSteps := 10000000 }) only [go_sem]
                · by_cases e3 : (nth (t := tStep) l i).1 = 0
                  · have e0 : tvStep q (nth (t := tStep) l i) = true := by unfold tvStep; rw [e1, e2, decide_eq_true e3]; rfl
                    have d3 := decide_eq_true e3
                    rw [e0, Bool.true_and, ← hst] at hi
                    try simp (config := { maxSteps := 10000000 }) only [go_sem]
                    repeat (refine And.intro (by first | omega | (constructor <;> omega) | kernel_rfl) ?_)
                    repeat (refine And.intro (by first | omega | (constructor <;> omega) | kernel_rfl) ?_)
                    refine CallW.mk (c4) ?_
                    try simp (config := { maxSteps := 10000000 }) only [go_sem]
                    repeat (refine And.intro (by first | omega | (constructor <;> omega) | kernel_rfl) ?_)
                    refine CallW.mk (c5) ?_
                    try simp (config := { maxSteps := 10000000 }) only [go_sem]
                    try simp (config := { maxSteps := 10000000 }) only [go_sem, d3]
                    repeat (refine And.intro (by first | omega | (constructor <;> omega) | kernel_rfl) ?_)
                    refine CallW.mk (c7) ?_
                    try simp (config := { maxSteps := 10000000 }) only [go_sem]
                    repeat (refine And.intro (by first | omega | (constructor <;> omega) | kernel_rfl) ?_)
                    refine LoopK.mk (i + 1) ?_ hi (by omega)
                    rw [hst]
                    refine Wk.mk [] ?_
                    try simp (config := { maxSteps := 10000000 }) only [go_sem]
                    try (and_intros <;> first | rfl | omega | exact ⟨_, rfl⟩)
                  · have d3 := decide_eq_false e3
                    cases e4 : eqb (nth (t := tStep) l i).2 q.2 <;> rw [e4] at c6
                    · have e0 : tvStep q (nth (t := tStep) l i) = false := by unfold tvStep; rw [e1, e2, d3, e4]; rfl
                      rw [e0] at hi
                      rw [hi]
                      try simp (config := { maxSteps := 10000000 }) only [go_sem]
                      repeat (refine And.intro (by first | omega | (constructor <;> omega) | kernel_rfl) ?_)
                      repeat (refine And.intro (by first | omega | (constructor <;> omega) | kernel_rfl) ?_)
                      refine CallW.mk (c4) ?_
                      try simp (config := { maxSteps := 10000000 }) only [go_sem]
                      repeat (refine And.intro (by first | omega | (constructor <;> omega) | kernel_rfl) ?_)
                      refine CallW.mk (c5) ?_
                      try simp (config := { maxSteps := 10000000 }) only [go_sem]
                      try simp (config := { maxSteps := 10000000 }) only [go_sem, d3]
                      repeat (refine And.intro (by first | omega | (constructor <;> omega) | kernel_rfl) ?_)
                      refine CallW.mk (c6) ?_
                      try simp (config := { maxSteps := 10000000 }) only [go_sem]
                    · have e0 : tvStep q (nth (t := tStep) l i) = true := by unfold tvStep; rw [e1, e2, d3, e4]; rfl
                      rw [e0, Bool.true_and, ← hst] at hi
                      try simp (config := { maxSteps := 10000000 }) only [go_sem]
                      repeat (refine And.intro (by first | omega | (constructor <;> omega) | kernel_rfl) ?_)
                      repeat (refine And.intro (by first | omega | (constructor <;> omega) | kernel_rfl) ?_)
                      refine CallW.mk (c4) ?_
                      try simp (config := { maxSteps := 10000000 }) only [go_sem]
                      repeat (refine And.intro (by first | omega | (constructor <;> omega) | kernel_rfl) ?_)
                      refine CallW.mk (c5) ?_
                      try simp (config := { maxSteps := 10000000 }) only [go_sem]
                      try simp (config := { maxSteps := 10000000 }) only [go_sem, d3]
                      repeat (refine And.intro (by first | omega | (constructor <;> omega) | kernel_rfl) ?_)
                      refine CallW.mk (c6) ?_
                      try simp (config := { maxSteps := 10000000 }) only [go_sem]
                      repeat (refine And.intro (by first | omega | (constructor <;> omega) | kernel_rfl) ?_)
                      refine CallW.mk (c7) ?_
                      try simp (config := { maxSteps := 10000000 }) only [go_sem]
                      repeat (refine And.intro (by first | omega | (constructor <;> omega) | kernel_rfl) ?_)
                      refine LoopK.mk (i + 1) ?_ hi (by omega)
                      rw [hst]
                      refine Wk.mk [] ?_
                      try simp (config := { maxSteps := 10000000 }) only [go_sem]
                      try (and_intros <;> first | rfl | omega | exact ⟨_, rfl⟩)
            · rw [hi, List.drop_eq_nil_of_le (by omega), show tvGo (plcS p l i) [] = true from rfl]
              try simp (config := { maxSteps := 10000000 }) only [go_sem]
        · have d4 : decide ((8 : Int) < l.length) = true := decide_eq_true (by omega)
          rw [decide_eq_false h4]
          refine fn_enter tabOK mixes Tryz.func46 rfl rfl _ Tryz.ntmps46 _ Tryz.results46 (by simp) fun hwf => ?_
          try simp (config := { maxSteps := 10000000 }) only [go_sem]
          repeat (refine And.intro (by first | omega | (constructor <;> omega) | kernel_rfl) ?_)
          refine CallW.mk (c1) ?_
          try simp (config := { maxSteps := 10000000 }) only [go_sem]
          repeat (refine And.intro (by first | omega | (constructor <;> omega) | kernel_rfl) ?_)
          refine CallW.mk (c2) ?_
          try simp (config := { maxSteps := 10000000 }) only [go_sem]
          repeat (refine And.intro (by first | omega | (constructor <;> omega) | kernel_rfl) ?_)
          refine CallW.mk (c3) ?_
          try simp (config := { maxSteps := 10000000 }) only [go_sem]
          try simp (config := { maxSteps := 10000000 }) only [go_sem, d4]
end Go.Proofs.YtghckbohaghgkaaGreat.DW

/-
  Tours: stands.
-/
namespace Go.Proofs.YtghckbohaghgkaaGreat.DW
open Go.RowKit
theorem l05Copy_fn (p : DP) (h : okPt p = true) : Fn Tryz.prog 113 [⟨tPoint, p⟩] true [⟨tPoint, p⟩] := by
  unfold okPt at h
  rw [Bool.and_eq_true] at h
  have h1 := okR_len h.1
  have h2 := okR_len h.2
  have c1 := l04Copy_fn p.1 (by omega) (by omega)
  have c2 := l04Copy_fn p.2 (by omega) (by omega)
  refine fn_enter tabOK mixes Tryz.func113 rfl rfl _ Tryz.ntmps113 _ Tryz.results113 (by simp) fun hwf => ?_
  try simp (config := { maxSteps := 10000000 }) only [go_sem]
  repeat (refine And.intro (by first | omega | (constructor <;> omega) | kernel_rfl) ?_)
  refine CallW.mk (c1) ?_
  try simp (config := { maxSteps := 10000000 }) only [go_sem]
  repeat (refine And.intro (by first | omega | (constructor <;> omega) | kernel_rfl) ?_)
  refine CallW.mk (c2) ?_
  try simp (config := { maxSteps := 10000000 }) only [go_sem]
  all_goals repeat (refine And.intro (by first | omega | (constructor <;> omega) | kernel_rfl) ?_)
  all_goals first | kernel_rfl | omega | rfl
/-- How many steps are taken. -/
def clip (k : Int) (n : Nat) : Nat := (max 0 (min k (n : Int))).toNat
theorem after_fn (p : DS) (l : List DS) (k : Int) : Fn Tryz.prog 121 [⟨tStep, p⟩, ⟨.slice tStep, l⟩, ⟨.int, k⟩] false [⟨tStep, plcS p l (clip k l.length)⟩] := by
  unfold plcS clip
  refine fn_enter tabOK mixes Tryz.func121 rfl rfl _ Tryz.ntmps121 _ Tryz.results121 (by simp) fun hwf => ?_
  have hl : l.length ≤ 9223372036854775807 := (hwf ⟨.slice tStep, l⟩ (by simp)).1
  try simp (config := { maxSteps := 10000000 }) only [go_sem]
  have hml : (List.take (max 0 (min k ↑l.length)).toNat l).length ≤ 9223372036854775807 := by rw [List.length_take]; omega
  generalize List.take (max 0 (min k ↑l.length)).toNat l = m at hml ⊢
  repeat (refine And.intro (by first | omega | (constructor <;> omega) | kernel_rfl) ?_)
  refine LoopG.intro _ _ _ (fun i : Nat => ⟨[(3, .ptr 0 0), (6, .ptr 1 0), (15, .sl tStep m), (16, .sc (.int .i64 m.length)), (17, .sc (.int .i64 i))], [(1, .box [.sc (.int .i64 0), .sc (.bool false), .sc (.slice none 0 0), .sc (.slice none 0 0), .sc (.bool false), .sc (.slice none 0 0), .sc (.slice none 0 0)]), (0, .box [.sc (.int .i64 (plcS p m i).1), .sc (.bool (plcS p m i).2.1.1.1), .sl .int (plcS p m i).2.1.1.2, .sl .int (plcS p m i).2.1.2, .sc (.bool (plcS p m i).2.2.1.1), .sl .int (plcS p m i).2.2.1.2, .sl .int (plcS p m i).2.2.2])]⟩) (fun i => i ≤ m.length) (fun i => m.length - i) 0 ?_ (Nat.zero_le _) ?_
  · refine Wk.mk [] ?_
    try simp (config := { maxSteps := 10000000 }) only [go_sem]
    try (and_intros <;> first | rfl | omega | exact ⟨_, rfl⟩)
  · rintro i hi
    try simp (config := { maxSteps := 10000000 }) only [go_sem]
    refine CondW_dec (fun hA => ?_) (fun hA => ?_)
    · have hst := plcS_step p (show i < m.length by omega)
      have c1 := stepped_fn (plcS p m i) (nth (t := tStep) m i)
      try simp (config := { maxSteps := 10000000 }) only [go_sem]
      repeat (refine And.intro (by first | omega | (constructor <;> omega) | kernel_rfl) ?_)
      repeat (refine And.intro (by first | omega | (constructor <;> omega) | kernel_rfl) ?_)
      refine CallW.mk (c1) ?_
      try simp (config := { maxSteps := 10000000 }) only [go_sem]
      repeat (refine And.intro (by first | omega | (constructor <;> omega) | kernel_rfl) ?_)
      refine LoopK.mk (i + 1) ?_ (by omega) (by omega)
      rw [hst]
      refine Wk.mk [] ?_
      try simp (config := { maxSteps := 10000000 }) only [go_sem]
      try (and_intros <;> first | rfl | omega | exact ⟨_, rfl⟩)
    · have : plcF p m = plcS p m i := by unfold plcS; rw [List.take_of_length_le (by omega)]
      rw [this]
      try simp (config := { maxSteps := 10000000 }) only [go_sem]
      all_goals repeat (refine And.intro (by first | omega | (constructor <;> omega) | kernel_rfl) ?_)
      all_goals first | kernel_rfl | omega | rfl
theorem PlacementAfter_fn (p : DS) (l : List DS) (k : Int) (h : okPt (plcS p l (clip k l.length)).2 = true) : Fn Tryz.prog 69 [⟨tStep, p⟩, ⟨.slice tStep, l⟩, ⟨.int, k⟩] true [⟨tStep, plcS p l (clip k l.length)⟩] := by
  have c2 := l05Copy_fn _ h
  refine fn_enter tabOK mixes Tryz.func69 rfl rfl _ Tryz.ntmps69 _ Tryz.results69 (by simp) fun hwf => ?_
  have hl : l.length ≤ 9223372036854775807 := (hwf ⟨.slice tStep, l⟩ (by simp)).1
  try simp (config := { maxSteps := 10000000 }) only [go_sem]
  refine LoopG.intro _ _ _ (fun i : Nat => ⟨[(2, .sc (.int .i64 k)), (3, .ptr 0 0), (6, .ptr 1 0), (9, .sl tStep l), (10, .sc (.int .i64 l.length)), (11, .sc (.int .i64 i))], [(1, .box [.sc (.int .i64 0), .sc (.bool false), .sc (.slice none 0 0), .sc (.slice none 0 0), .sc (.bool false), .sc (.slice none 0 0), .sc (.slice none 0 0)]), (0, .box [.sc (.int .i64 (plcS p l (clip k i)).1), .sc (.bool (plcS p l (clip k i)).2.1.1.1), .sl .int (plcS p l (clip k i)).2.1.1.2, .sl .int (plcS p l (clip k i)).2.1.2, .sc (.bool (plcS p l (clip k i)).2.2.1.1), .sl .int (plcS p l (clip k i)).2.2.1.2, .sl .int (plcS p l (clip k i)).2.2.2])]⟩) (fun i => i ≤ l.length) (fun i => l.length - i) 0 ?_ (Nat.zero_le _) ?_
  · have e0 : plcS p l (clip k 0) = p := by rw [show clip k 0 = 0 by unfold clip; omega]; rfl
    rw [e0]
    refine Wk.mk [] ?_
    try simp (config := { maxSteps := 10000000 }) only [go_sem]
    try (and_intros <;> first | rfl | omega | exact ⟨_, rfl⟩)
  · rintro i hi
    try simp (config := { maxSteps := 10000000 }) only [go_sem]
    refine CondW_dec (fun hA => ?_) (fun hA => ?_)
    · try simp (config := { maxSteps := 10000000 }) only [go_sem]
      repeat (refine And.intro (by first | omega | (constructor <;> omega) | kernel_rfl) ?_)
      refine CondW_dec (fun hB => ?_) (fun hB => ?_)
      · have hst := plcS_step p (show i < l.length by omega)
        rw [show i = clip k i by unfold clip; omega, show clip k i + 1 = clip k (i + 1) by unfold clip; omega] at hst
        have hci : clip k i = i := by unfold clip; omega
        rw [hci] at hst
        have c1 := l22After_fn (plcS p l i) (nth (t := tStep) l i)
        rw [hci]
        try simp (config := { maxSteps := 10000000 }) only [go_sem]
        repeat (refine And.intro (by first | omega | (constructor <;> omega) | kernel_rfl) ?_)
        refine CallW.mk (c1) ?_
        try simp (config := { maxSteps := 10000000 }) only [go_sem]
        repeat (refine And.intro (by first | omega | (constructor <;> omega) | kernel_rfl) ?_)
        refine LoopK.mk (i + 1) ?_ (by omega) (by omega)
        rw [hst]
        refine Wk.mk [] ?_
        try simp (config := { maxSteps := 10000000 }) only [go_sem]
        try (and_intros <;> first | rfl | omega | exact ⟨_, rfl⟩)
      · have hst : clip k (i + 1) = clip k i := by unfold clip; omega
        try simp (config := { maxSteps := 10000000 }) only [go_sem]
        repeat (refine And.intro (by first | omega | (constructor <;> omega) | kernel_rfl) ?_)
        refine LoopK.mk (i + 1) ?_ (by omega) (by omega)
        rw [hst]
        refine Wk.mk [] ?_
        try simp (config := { maxSteps := 10000000 }) only [go_sem]
        try (and_intros <;> first | rfl | omega | exact ⟨_, rfl⟩)
    · rw [show i = l.length by omega]
      generalize plcS p l (clip k l.length) = q at c2 ⊢
      try simp (config := { maxSteps := 10000000 }) only [go_sem]
      repeat (refine And.intro (by first | omega | (constructor <;> omega) | kernel_rfl) ?_)
      repeat (refine And.intro (by first | omega | (constructor <;> omega) | kernel_rfl) ?_)
      refine CallW.mk (c2) ?_
      try simp (config := { maxSteps := 10000000 }) only [go_sem]
      all_goals repeat (refine And.intro (by first | omega | (constructor <;> omega) | kernel_rfl) ?_)
      all_goals first | kernel_rfl | omega | rfl
theorem okPt_stp {p x : DS} (hp : okPt p.2 = true) (hx : okPt x.2 = true) : okPt (stp p x).2 = true := by
  unfold stp
  split
  · exact hx
  · split
    · exact hp
    · exact hp
theorem okPt_go {l : List DS} : ∀ {p : DS}, okPt p.2 = true → tvGo p l = true → ∀ i, okPt (plcS p l i).2 = true := by
  induction l with
  | nil => intro p hp _ i; unfold plcS; rw [List.take_nil]; exact hp
  | cons x l ih =>
    intro p hp h i
    have h' : (tvStep p x && tvGo (stp p x) l) = true := h
    rw [Bool.and_eq_true] at h'
    have hx : okPt x.2 = true := by
      have := h'.1
      unfold tvStep at this
      rw [Bool.and_eq_true, Bool.and_eq_true] at this
      exact this.2.1
    cases i with
    | zero => exact hp
    | succ i => exact ih (okPt_stp hp hx) h'.2 i
theorem okPt_tour {t : DT} (h : tourB t = true) (i : Nat) : okPt (plcS t.2.1 t.2.2 i).2 = true := by
  unfold tourB at h
  simp only [Bool.and_eq_true] at h
  exact okPt_go h.2.2.1 h.2.2.2.2 i
noncomputable def standB (t : DT) (k : Int) : Bool := tourB t && decide (0 ≤ k ∧ k ≤ (t.2.2.length : Int))
noncomputable def standP (t : DT) (k : Int) : DS := plcS t.2.1 t.2.2 (clip k t.2.2.length)
noncomputable def standO (t : DT) (k : Int) : DS := if standB t k then standP t k else (0, ptZ)
theorem stand_fn (t : DT) (k : Int) : Fn Tryz.prog 83 [⟨tTour, t⟩, ⟨.int, k⟩] false [⟨tStep, standP t k⟩] := by
  have c1 := after_fn t.2.1 t.2.2 k
  refine fn_enter tabOK mixes Tryz.func83 rfl rfl _ Tryz.ntmps83 _ Tryz.results83 (by simp) fun hwf => ?_
  unfold standP
  try simp (config := { maxSteps := 10000000 }) only [go_sem]
  repeat (refine And.intro (by first | omega | (constructor <;> omega) | kernel_rfl) ?_)
  refine CallW.mk (c1) ?_
  try simp (config := { maxSteps := 10000000 }) only [go_sem]
  all_goals repeat (refine And.intro (by first | omega | (constructor <;> omega) | kernel_rfl) ?_)
  all_goals first | kernel_rfl | omega | rfl
theorem specStandOf_fn (t : DT) (k : Int) : FnT Tryz.prog 33 [⟨tTour, t⟩, ⟨.int, k⟩] [⟨tStep, standO t k⟩, ⟨.bool, standB t k⟩] := by
  have c1 := specIsValidTour_fn t
  have c2 := l01In_fn k 0 t.2.2.length
  unfold standO standB
  cases h : tourB t <;> rw [h] at c1
  · rw [Bool.false_and, if_neg (by decide)]
    refine fnT_enter tabOK mixes Tryz.func33 rfl rfl _ Tryz.ntmps33 _ Tryz.results33 (by simp) fun hwf => ?_
    try simp (config := { maxSteps := 10000000 }) only [go_sem]
    repeat (refine And.intro (by first | omega | (constructor <;> omega) | kernel_rfl) ?_)
    refine CallW.mk (c1) ?_
    try simp (config := { maxSteps := 10000000 }) only [go_sem]
    all_goals repeat (refine And.intro (by first | omega | (constructor <;> omega) | kernel_rfl) ?_)
    all_goals first | kernel_rfl | omega | rfl
  · cases h2 : decide (0 ≤ k ∧ k ≤ (t.2.2.length : Int)) <;> rw [h2] at c2
    · rw [Bool.and_false, if_neg (by decide)]
      refine fnT_enter tabOK mixes Tryz.func33 rfl rfl _ Tryz.ntmps33 _ Tryz.results33 (by simp) fun hwf => ?_
      try simp (config := { maxSteps := 10000000 }) only [go_sem]
      repeat (refine And.intro (by first | omega | (constructor <;> omega) | kernel_rfl) ?_)
      refine CallW.mk (c1) ?_
      try simp (config := { maxSteps := 10000000 }) only [go_sem]
      repeat (refine And.intro (by first | omega | (constructor <;> omega) | kernel_rfl) ?_)
      refine CallW.mk (c2) ?_
      try simp (config := { maxSteps := 10000000 }) only [go_sem]
      all_goals repeat (refine And.intro (by first | omega | (constructor <;> omega) | kernel_rfl) ?_)
      all_goals first | kernel_rfl | omega | rfl
    · have c3 := PlacementAfter_fn t.2.1 t.2.2 k (okPt_tour h _)
      rw [Bool.and_self, if_pos rfl]
      unfold standP
      refine fnT_enter tabOK mixes Tryz.func33 rfl rfl _ Tryz.ntmps33 _ Tryz.results33 (by simp) fun hwf => ?_
      try simp (config := { maxSteps := 10000000 }) only [go_sem]
      repeat (refine And.intro (by first | omega | (constructor <;> omega) | kernel_rfl) ?_)
      refine CallW.mk (c1) ?_
      try simp (config := { maxSteps := 10000000 }) only [go_sem]
      repeat (refine And.intro (by first | omega | (constructor <;> omega) | kernel_rfl) ?_)
      refine CallW.mk (c2) ?_
      try simp (config := { maxSteps := 10000000 }) only [go_sem]
      repeat (refine And.intro (by first | omega | (constructor <;> omega) | kernel_rfl) ?_)
      refine CallW.mk (c3) ?_
      try simp (config := { maxSteps := 10000000 }) only [go_sem]
      all_goals repeat (refine And.intro (by first | omega | (constructor <;> omega) | kernel_rfl) ?_)
      all_goals first | kernel_rfl | omega | rfl
end Go.Proofs.YtghckbohaghgkaaGreat.DW

/-
  Robots at stands: do they touch?
-/
namespace Go.Proofs.YtghckbohaghgkaaGreat.DW
open Go.RowKit
theorem differenceP_fn (p q : DP) (hp : okPt p = true) (hq : okPt q = true) : Fn Tryz.prog 87 [⟨tPoint, p⟩, ⟨tPoint, q⟩] true [⟨tPoint, subP p q⟩] := by
  obtain ⟨p1, p2⟩ := Bool.and_eq_true_iff.1 (show (okR p.1 && okR p.2) = true from hp)
  obtain ⟨q1, q2⟩ := Bool.and_eq_true_iff.1 (show (okR q.1 && okR q.2) = true from hq)
  have h2 := difference_fn (rdO p.1) (rdO p.2) (rdO q.1) (rdO q.2) (okO_rdO _) (okO_rdO _) (okO_rdO _) (okO_rdO _)
  rw [okR_oD p1, okR_oD p2, okR_oD q1, okR_oD q2] at h2
  unfold subP
  exact h2
theorem stp_hd {p x : DS} (hp : 0 ≤ p.1 ∧ p.1 ≤ 3) : 0 ≤ (stp p x).1 ∧ (stp p x).1 ≤ 3 := by
  unfold stp
  split
  · exact hp
  · split
    · rename_i h
      show 0 ≤ nxH p.1 x.1 ∧ nxH p.1 x.1 ≤ 3
      rw [nxH_in hp h]
      omega
    · exact hp
theorem plcF_hd : ∀ {l : List DS} {p : DS}, 0 ≤ p.1 ∧ p.1 ≤ 3 → 0 ≤ (plcF p l).1 ∧ (plcF p l).1 ≤ 3
  | [], _, h => h
  | x :: l, p, h => plcF_hd (l := l) (p := stp p x) (stp_hd h)
theorem tour_parts {t : DT} (h : tourB t = true) : SmP 20 t.1 ∧ (0 ≤ t.2.1.1 ∧ t.2.1.1 ≤ 3) ∧ okPt t.2.1.2 = true ∧ t.2.2.length ≤ 8 ∧ tvGo t.2.1 t.2.2 = true := by
  unfold tourB at h
  simp only [Bool.and_eq_true] at h
  obtain ⟨h1, h2, h3, h4, h5⟩ := h
  exact ⟨smB_p h1, of_decide_eq_true h2, h3, by have := of_decide_eq_true h4; omega, h5⟩
theorem standP_hd {t : DT} (h : tourB t = true) (k : Int) : 0 ≤ (standP t k).1 ∧ (standP t k).1 ≤ 3 := plcF_hd (tour_parts h).2.1
theorem standP_ok {t : DT} (h : tourB t = true) (k : Int) : okPt (standP t k).2 = true := okPt_tour h _
theorem standB_t {t : DT} {k : Int} (h : standB t k = true) : tourB t = true := by unfold standB at h; rw [Bool.and_eq_true] at h; exact h.1
/-- The robot of a tour at a stand, turned. -/
noncomputable def robD (t : DT) (k : Int) : List DV := t.1.map (rotN (standP t k).1.toNat)
theorem robD_sm {t : DT} (h : tourB t = true) (k : Int) : SmP 20 (robD t k) := (tour_parts h).1.rot _
noncomputable def areaD (a : DT) (i : Int) (b : DT) (j : Int) : List DV := obsD (robD a i) (robD b j)
noncomputable def stTB (a : DT) (i : Int) (b : DT) (j : Int) : Bool := decide (cpD (areaD a i b j) (subP (standP a i).2 (standP b j).2) ≥ 0)
theorem areaD_poly {a b : DT} (ha : tourB a = true) (hb : tourB b = true) (i j : Int) : polyP (areaD a i b j) := obs_poly (robD_sm ha i) (robD_sm hb j) (by decide)
theorem standsTouch_fn (a : DT) (i : Int) (b : DT) (j : Int) (ha : tourB a = true) (hb : tourB b = true) : Fn Tryz.prog 42 [⟨tTour, a⟩, ⟨.int, i⟩, ⟨tTour, b⟩, ⟨.int, j⟩] false [⟨.bool, stTB a i b j⟩] := by
  have c1 := stand_fn a i
  have c2 := stand_fn b j
  have p1 := (tour_parts ha).1
  have p2 := (tour_parts hb).1
  have l1 := p1.five
  have l2 := p2.five
  have c3 := TurnPolygonI_fn a.1 (standP a i).1 p1.ok (by omega) (standP_hd ha i)
  have c4 := TurnPolygonI_fn b.1 (standP b j).1 p2.ok (by omega) (standP_hd hb j)
  have c5 := ObstacleForI_fn _ _ (robD_sm ha i) (robD_sm hb j) (by decide)
  have c6 := differenceP_fn _ _ (standP_ok ha i) (standP_ok hb j)
  have c7 := ContainsI_fn (areaD a i b j) (subP (standP a i).2 (standP b j).2) (areaD_poly ha hb i j)
  unfold robD at c5
  unfold areaD robD at c7
  unfold stTB areaD robD
  refine fn_enter tabOK mixes Tryz.func42 rfl rfl _ Tryz.ntmps42 _ Tryz.results42 (by simp) fun hwf => ?_
  try simp (config := { maxSteps := 10000000 }) only [go_sem]
  repeat (refine And.intro (by first | omega | (constructor <;> omega) | kernel_rfl) ?_)
  refine CallW.mk (c1) ?_
  try simp (config := { maxSteps := 10000000 }) only [go_sem]
  repeat (refine And.intro (by first | omega | (constructor <;> omega) | kernel_rfl) ?_)
  refine CallW.mk (c2) ?_
  try simp (config := { maxSteps := 10000000 }) only [go_sem]
  repeat (refine And.intro (by first | omega | (constructor <;> omega) | kernel_rfl) ?_)
  repeat (refine And.intro (by first | omega | (constructor <;> omega) | kernel_rfl) ?_)
  refine CallW.mk (c3) ?_
  try simp (config := { maxSteps := 10000000 }) only [go_sem]
  repeat (refine And.intro (by first | omega | (constructor <;> omega) | kernel_rfl) ?_)
  refine CallW.mk (c4) ?_
  try simp (config := { maxSteps := 10000000 }) only [go_sem]
  repeat (refine And.intro (by first | omega | (constructor <;> omega) | kernel_rfl) ?_)
  refine CallW.mk (c5) ?_
  try simp (config := { maxSteps := 10000000 }) only [go_sem]
  repeat (refine And.intro (by first | omega | (constructor <;> omega) | kernel_rfl) ?_)
  repeat (refine And.intro (by first | omega | (constructor <;> omega) | kernel_rfl) ?_)
  refine CallW.mk (c6) ?_
  try simp (config := { maxSteps := 10000000 }) only [go_sem]
  repeat (refine And.intro (by first | omega | (constructor <;> omega) | kernel_rfl) ?_)
  refine CallW.mk (c7) ?_
  try simp (config := { maxSteps := 10000000 }) only [go_sem]
  all_goals repeat (refine And.intro (by first | omega | (constructor <;> omega) | kernel_rfl) ?_)
  all_goals first | kernel_rfl | omega | rfl
noncomputable def stTouch (a : DT) (i : Int) (b : DT) (j : Int) : Bool := standB a i && (standB b j && stTB a i b j)
theorem standO_t {t : DT} {k : Int} (h : standB t k = true) : standO t k = standP t k := if_pos h
theorem StandsTouchS_fn (a : DT) (i : Int) (b : DT) (j : Int) : Fn Tryz.prog 9 [⟨tTour, a⟩, ⟨.int, i⟩, ⟨tTour, b⟩, ⟨.int, j⟩] false [⟨.bool, stTouch a i b j⟩] := by
  have c1 := specStandOf_fn a i
  have c2 := specStandOf_fn b j
  unfold stTouch
  cases h1 : standB a i <;> rw [h1] at c1
  · refine fn_enter tabOK mixes Tryz.func9 rfl rfl _ Tryz.ntmps9 _ Tryz.results9 (by simp) fun hwf => ?_
    try simp (config := { maxSteps := 10000000 }) only [go_sem]
    repeat (refine And.intro (by first | omega | (constructor <;> omega) | kernel_rfl) ?_)
    refine CallW.t (c1) ?_
    try simp (config := { maxSteps := 10000000 }) only [go_sem]
    repeat (refine And.intro (by first | omega | (constructor <;> omega) | kernel_rfl) ?_)
    refine CallW.t (c2) ?_
    try simp (config := { maxSteps := 10000000 }) only [go_sem]
    all_goals repeat (refine And.intro (by first | omega | (constructor <;> omega) | kernel_rfl) ?_)
    all_goals first | kernel_rfl | omega | rfl
  · cases h2 : standB b j <;> rw [h2] at c2
    · refine fn_enter tabOK mixes Tryz.func9 rfl rfl _ Tryz.ntmps9 _ Tryz.results9 (by simp) fun hwf => ?_
      try simp (config := { maxSteps := 10000000 }) only [go_sem]
      repeat (refine And.intro (by first | omega | (constructor <;> omega) | kernel_rfl) ?_)
      refine CallW.t (c1) ?_
      try simp (config := { maxSteps := 10000000 }) only [go_sem]
      repeat (refine And.intro (by first | omega | (constructor <;> omega) | kernel_rfl) ?_)
      refine CallW.t (c2) ?_
      try simp (config := { maxSteps := 10000000 }) only [go_sem]
      all_goals repeat (refine And.intro (by first | omega | (constructor <;> omega) | kernel_rfl) ?_)
      all_goals first | kernel_rfl | omega | rfl
    · have ha := standB_t h1
      have hb := standB_t h2
      have p1 := (tour_parts ha).1
      have p2 := (tour_parts hb).1
      have l1 := p1.five
      have l2 := p2.five
      rw [standO_t h1] at c1
      rw [standO_t h2] at c2
      have c3 := TurnPolygonS_fn a.1 (standP a i).1 p1.ok (by omega) (standP_hd ha i)
      have c4 := TurnPolygonS_fn b.1 (standP b j).1 p2.ok (by omega) (standP_hd hb j)
      have c5 := ObstacleForS_fn _ _ (robD_sm ha i) (robD_sm hb j) (by decide)
      have c6 := specSubtractPoints_fn (standP a i).2 (standP b j).2
      have c7 := ContainsS_fn (areaD a i b j) (subP (standP a i).2 (standP b j).2) (areaD_poly ha hb i j)
      unfold robD at c5
      unfold areaD robD at c7
      unfold stTB areaD robD
      refine fn_enter tabOK mixes Tryz.func9 rfl rfl _ Tryz.ntmps9 _ Tryz.results9 (by simp) fun hwf => ?_
      try simp (config := { maxSteps := 10000000 }) only [go_sem]
      repeat (refine And.intro (by first | omega | (constructor <;> omega) | kernel_rfl) ?_)
      refine CallW.t (c1) ?_
      try simp (config := { maxSteps := 10000000 }) only [go_sem]
      repeat (refine And.intro (by first | omega | (constructor <;> omega) | kernel_rfl) ?_)
      refine CallW.t (c2) ?_
      try simp (config := { maxSteps := 10000000 }) only [go_sem]
      repeat (refine And.intro (by first | omega | (constructor <;> omega) | kernel_rfl) ?_)
      repeat (refine And.intro (by first | omega | (constructor <;> omega) | kernel_rfl) ?_)
      refine CallW.mk (c3) ?_
      try simp (config := { maxSteps := 10000000 }) only [go_sem]
      repeat (refine And.intro (by first | omega | (constructor <;> omega) | kernel_rfl) ?_)
      refine CallW.mk (c4) ?_
      try simp (config := { maxSteps := 10000000 }) only [go_sem]
      repeat (refine And.intro (by first | omega | (constructor <;> omega) | kernel_rfl) ?_)
      refine CallW.mk (c5) ?_
      try simp (config := { maxSteps := 10000000 }) only [go_sem]
      repeat (refine And.intro (by first | omega | (constructor <;> omega) | kernel_rfl) ?_)
      repeat (refine And.intro (by first | omega | (constructor <;> omega) | kernel_rfl) ?_)
      refine CallW.mx (c6) ?_
      try simp (config := { maxSteps := 10000000 }) only [go_sem]
      repeat (refine And.intro (by first | omega | (constructor <;> omega) | kernel_rfl) ?_)
      refine CallW.mx (c7) ?_
      try simp (config := { maxSteps := 10000000 }) only [go_sem]
      all_goals repeat (refine And.intro (by first | omega | (constructor <;> omega) | kernel_rfl) ?_)
      all_goals first | kernel_rfl | omega | rfl
end Go.Proofs.YtghckbohaghgkaaGreat.DW

/-
  Fractions: quotients.
-/
namespace Go.Proofs.YtghckbohaghgkaaGreat.DW
open Go.RowKit
theorem small_ngi {q : Rat} : small (-q) ↔ small q := by unfold small; rw [Rat.neg_num, Rat.neg_den, Int.natAbs_neg]
theorem capR_neg (q : Rat) : capR (-q) = negO (capR q) := by
  by_cases h : small q
  · rw [capR_s h, capR_s (small_ngi.2 h)]; rfl
  · rw [capR_n h, capR_n (fun h' => h (small_ngi.1 h'))]; rfl
theorem subO_swap (x y : Option Rat) : subO y x = negO (subO x y) := by
  cases x with
  | none => cases y <;> rfl
  | some p =>
    cases y with
    | none => rfl
    | some q =>
      show capR (q + -p) = negO (capR (p + -q))
      rw [← capR_neg]
      congr 1
      rw [Rat.neg_add, Rat.neg_neg, Rat.add_comm]
theorem mulO_nn (x y : Option Rat) : mulO (negO x) (negO y) = mulO x y := by
  cases x with
  | none => rfl
  | some p =>
    cases y with
    | none => rfl
    | some q =>
      show capR (-p * -q) = capR (p * q)
      rw [Rat.neg_mul, Rat.mul_neg, Rat.neg_neg]
end Go.Proofs.YtghckbohaghgkaaGreat.DW

/-
  Two robots touch whichever of them is named first.
-/
namespace Go.Proofs.YtghckbohaghgkaaGreat.DW
open Go.RowKit
theorem srtD_ng {l m : List DV} (h : ∀ x, x ∈ m ↔ ngV x ∈ l) : srtD m = (srtD l).reverse.map ngV := by
  refine (srtD_eq ?_ fun x => ?_).symm
  · rw [List.pairwise_map, List.pairwise_reverse]
    exact (srtD_srt l).imp fun {a b} h => ltV_ng.2 h
  · rw [List.mem_map, h]
    constructor
    · rintro ⟨y, hy, rfl⟩
      rw [ngV_ngV]
      exact srtD_mem.1 (List.mem_reverse.1 hy)
    · exact fun hx => ⟨ngV x, List.mem_reverse.2 (srtD_mem.2 hx), ngV_ngV x⟩
theorem chD_ng (l : List DV) : chD (l.map ngV) = (chD l).map ngV := by
  unfold chD
  rw [chR_ng, ← List.map_reverse, List.map_dropLast]
theorem hullD_ng {l m : List DV} (h : ∀ x, x ∈ m ↔ ngV x ∈ l) (hl : ¬ (srtD l).length < 2) : hullD l = chD (srtD l) ++ chD (srtD l).reverse ∧ hullD m = (chD (srtD l).reverse ++ chD (srtD l)).map ngV := by
  have e := srtD_ng h
  constructor
  · unfold hullD; rw [if_neg hl]
  · unfold hullD
    rw [e, if_neg (by rw [List.length_map, List.length_reverse]; exact hl), chD_ng, ← List.map_reverse, List.reverse_reverse, chD_ng, List.map_append]
/-- Each edge of a list that is cut and turned is one of the list. -/
theorem rot_edge (u v : List DV) {i : Nat} (hi : i < (v ++ u).length) : ∃ j, j < (u ++ v).length ∧ nth (t := tVec) (u ++ v) j = nth (t := tVec) (v ++ u) i ∧ nth (t := tVec) (u ++ v) (nxt (u ++ v).length j).toNat = nth (t := tVec) (v ++ u) (nxt (v ++ u).length i).toNat := by
  have e1 : (v ++ u).length = v.length + u.length := List.length_append
  have e2 : (u ++ v).length = u.length + v.length := List.length_append
  rw [e1] at hi ⊢
  rw [e2]
  have key : ∀ k, k < v.length + u.length → nth (t := tVec) (v ++ u) k = nth (t := tVec) (u ++ v) (if k < v.length then u.length + k else k - v.length) := by
    intro k hk
    split
    · rename_i h
      rw [nth_al h, nth_ar (by omega) (by omega), show u.length + k - u.length = k by omega]
    · rename_i h
      rw [nth_ar (by omega) (by omega), nth_al (by omega)]
  have hn1 : (nxt (v.length + u.length) i).toNat < v.length + u.length := by
    have := nxt_rng (n := v.length + u.length) (i := i) (by omega); omega
  refine ⟨if i < v.length then u.length + i else i - v.length, by split <;> omega, (key i hi).symm, ?_⟩
  rw [key _ hn1]
  congr 1
  have hj : (if i < v.length then u.length + i else i - v.length) < u.length + v.length := by split <;> omega
  rw [nxt_cases hi, nxt_cases hj]
  split <;> split <;> split <;> split <;> omega
theorem cntI_ge {l : List DV} {p : DP} : ∀ {n : Nat}, 0 ≤ cntI l p n ↔ ∀ i, i < n → 0 ≤ sdP (ptV (nth (t := tVec) l i)) (ptV (nth (t := tVec) l (nxt l.length i).toNat)) p
  | 0 => ⟨fun _ i h => absurd h (Nat.not_lt_zero _), fun _ => by unfold cntI; decide⟩
  | n + 1 => by
    have ih := cntI_ge (l := l) (p := p) (n := n)
    unfold cntI
    constructor
    · intro h i hi
      by_cases h1 : i < n
      · exact ih.1 (by omega) i h1
      · rw [show i = n by omega]; omega
    · intro h
      have h1 := ih.2 fun i hi => h i (by omega)
      have h2 := h n (by omega)
      omega
theorem subO_ng (x y : Option Rat) : subO (negO x) (negO y) = negO (subO x y) := by
  cases x with
  | none => cases y <;> rfl
  | some p =>
    cases y with
    | none => rfl
    | some q =>
      show capR (-p + - -q) = negO (capR (p + -q))
      rw [← capR_neg, Rat.neg_add]
theorem rdO_ratI {n : Int} (h1 : -1000 ≤ n) (h2 : n ≤ 1000) : rdO (ratI n) = some ((n : Int) : Rat) := by
  have ho : okO (some ((n : Int) : Rat)) := by
    intro q hq; injection hq with hq; subst hq
    exact ⟨Nat.le_trans (nl_small (n := n.natAbs) (by omega)) (by decide), Nat.le_trans (nl_small (n := 1) (by decide)) (by decide)⟩
  rw [show ratI n = oD (some ((n : Int) : Rat)) from ratI_eq n, rdO_oD ho]
theorem ptV_ng {a : DV} (h : okV a = true) : rdO (ptV (ngV a)).1 = negO (rdO (ptV a).1) ∧ rdO (ptV (ngV a)).2 = negO (rdO (ptV a).2) := by
  obtain ⟨b1, b2, b3, b4⟩ := okV_b h
  unfold ptV ngV
  refine ⟨?_, ?_⟩
  · show rdO (ratI (-a.1)) = negO (rdO (ratI a.1))
    rw [rdO_ratI b1 b2, rdO_ratI (by omega) (by omega)]
    show some _ = some _
    rw [Rat.intCast_neg]
  · show rdO (ratI (-a.2)) = negO (rdO (ratI a.2))
    rw [rdO_ratI b3 b4, rdO_ratI (by omega) (by omega)]
    show some _ = some _
    rw [Rat.intCast_neg]
theorem sdP_ng {a b : DV} {p q : DP} (ha : okV a = true) (hb : okV b = true) (h1 : rdO q.1 = negO (rdO p.1)) (h2 : rdO q.2 = negO (rdO p.2)) : sdP (ptV (ngV a)) (ptV (ngV b)) q = sdP (ptV a) (ptV b) p := by
  obtain ⟨a1, a2⟩ := ptV_ng ha
  obtain ⟨b1, b2⟩ := ptV_ng hb
  unfold sdP
  rw [a1, a2, b1, b2, h1, h2, subO_ng, subO_ng, subO_ng, subO_ng, mulO_nn, mulO_nn]
theorem subP_parts (p q : DP) : (okPt (subP p q) = true ∧ rdO (subP p q).1 = subO (rdO p.1) (rdO q.1) ∧ rdO (subP p q).2 = subO (rdO p.2) (rdO q.2)) ∨ (okPt (subP p q) = false ∧ ((subO (rdO p.1) (rdO q.1)).isSome && (subO (rdO p.2) (rdO q.2)).isSome) = false) := by
  cases h : ((subO (rdO p.1) (rdO q.1)).isSome && (subO (rdO p.2) (rdO q.2)).isSome)
  · refine .inr ⟨?_, rfl⟩
    have e : subP p q = ptZ := by unfold subP ptO; rw [h]; rfl
    rw [e]
    show (okR rZ && okR rZ) = false
    have : okR rZ = false := by unfold okR; rw [show rZ = oD none from rfl, rdO_oD okO_none]; rfl
    rw [this]; rfl
  · refine .inl ?_
    have e : subP p q = (oD (subO (rdO p.1) (rdO q.1)), oD (subO (rdO p.2) (rdO q.2))) := by unfold subP ptO; rw [h]; rfl
    rw [e]
    refine ⟨?_, rdO_oD (okO_sub _ _), rdO_oD (okO_sub _ _)⟩
    show (okR (oD _) && okR (oD _)) = true
    unfold okR
    rw [rdO_oD (okO_sub _ _), rdO_oD (okO_sub _ _)]
    exact h
theorem negO_some (x : Option Rat) : (negO x).isSome = x.isSome := by cases x <;> rfl
theorem cpD_ng {l m : List DV} {A B : List DV} (hl : polyP (hullD l)) (hm : polyP (hullD m)) (h : ∀ x, x ∈ m ↔ ngV x ∈ l) (p q : DP) (h0 : 0 ≤ cpD (hullD l) (subP p q)) : 0 ≤ cpD (hullD m) (subP q p) := by
  have h2 : ¬ (srtD l).length < 2 := by
    intro hlt
    have : hullD l = srtD l := by unfold hullD; rw [if_pos hlt]
    have h3 := hl.1.1
    rw [this] at h3
    omega
  obtain ⟨e1, e2⟩ := hullD_ng h h2
  rcases subP_parts p q with ⟨k1, k2, k3⟩ | ⟨k1, _⟩
  · have hq : okPt (subP q p) = true ∧ rdO (subP q p).1 = negO (rdO (subP p q).1) ∧ rdO (subP q p).2 = negO (rdO (subP p q).2) := by
      rcases subP_parts q p with ⟨j1, j2, j3⟩ | ⟨_, j2⟩
      · exact ⟨j1, by rw [j2, k2, subO_swap], by rw [j3, k3, subO_swap]⟩
      · exfalso
        rw [subO_swap (rdO p.1) (rdO q.1), subO_swap (rdO p.2) (rdO q.2), negO_some, negO_some] at j2
        have := k1
        rcases subP_parts p q with ⟨_, i2, i3⟩ | ⟨i1, _⟩
        · unfold okPt okR at this
          rw [i2, i3, j2] at this
          cases this
        · rw [i1] at this; cases this
    obtain ⟨q1, q2, q3⟩ := hq
    unfold cpD at h0 ⊢
    rw [k1, if_pos rfl] at h0
    rw [q1, if_pos rfl]
    have hok := hl.2.1
    rw [cntI_ge] at h0 ⊢
    rw [e1] at h0 hok
    rw [e2]
    generalize chD (srtD l) = u at *
    generalize chD (srtD l).reverse = v at *
    intro i hi
    rw [List.length_map] at hi ⊢
    have hn : ∀ {k}, k < (v ++ u).length → nth (t := tVec) ((v ++ u).map ngV) k = ngV (nth (t := tVec) (v ++ u) k) := fun {k} hk => by
      rw [nth_lt (t := tVec) hk, nth_lt (t := tVec) (l := (v ++ u).map ngV) (by rw [List.length_map]; exact hk), List.getElem_map]
    have hr := nxt_rng (n := (v ++ u).length) (i := i) (by omega)
    have hr2 : (nxt (v ++ u).length i).toNat < (v ++ u).length := by omega
    obtain ⟨j, hj, f1, f2⟩ := rot_edge u v hi
    have hrj := nxt_rng (n := (u ++ v).length) (i := j) (by omega)
    have hrj2 : (nxt (u ++ v).length j).toNat < (u ++ v).length := by omega
    rw [hn hi, hn hr2, ← f1, ← f2, sdP_ng (hok _ (nth_mem hj)) (hok _ (nth_mem hrj2)) q2 q3]
    exact h0 j hj
  · unfold cpD at h0
    rw [k1, if_neg (by decide)] at h0
    exact absurd h0 (by decide)
theorem sm_ng (A B : List DV) (x : DV) : x ∈ smV A (B.map negV) ↔ ngV x ∈ smV B (A.map negV) := by
  rw [smV_mem, smV_mem]
  constructor
  · rintro ⟨p, hp, q, hq, rfl⟩
    obtain ⟨q', hq', rfl⟩ := List.mem_map.1 hq
    refine ⟨q', hq', negV p, List.mem_map_of_mem hp, ?_⟩
    unfold addV negV ngV
    exact Prod.ext (by simp only; omega) (by simp only; omega)
  · rintro ⟨p, hp, q, hq, e⟩
    obtain ⟨q', hq', rfl⟩ := List.mem_map.1 hq
    refine ⟨q', hq', negV p, List.mem_map_of_mem hp, ?_⟩
    rw [← ngV_ngV x, ← e]
    unfold addV negV ngV
    exact Prod.ext (by simp only; omega) (by simp only; omega)
theorem stTB_le {a b : DT} (ha : tourB a = true) (hb : tourB b = true) (i j : Int) (h : stTB a i b j = true) : stTB b j a i = true := by
  unfold stTB at h ⊢
  have h := of_decide_eq_true h
  exact decide_eq_true (cpD_ng (A := robD a i) (B := robD b j) (areaD_poly ha hb i j) (areaD_poly hb ha j i) (fun x => sm_ng (robD a i) (robD b j) x) _ _ h)
theorem stTB_symm {a b : DT} (ha : tourB a = true) (hb : tourB b = true) (i j : Int) : stTB a i b j = stTB b j a i := by
  cases h : stTB a i b j
  · cases h2 : stTB b j a i
    · rfl
    · rw [stTB_le hb ha j i h2] at h; cases h
  · rw [stTB_le ha hb i j h]
end Go.Proofs.YtghckbohaghgkaaGreat.DW

/-
  Tours that do not touch at their starts.
-/
namespace Go.Proofs.YtghckbohaghgkaaGreat.DW
open Go.RowKit
theorem nth_memT {t : Ty} {l : List t.den} {i : Nat} (h : i < l.length) : nth l i ∈ l := by rw [nth_lt h]; exact List.getElem_mem h
theorem indexFunc_tour_fn (F : FuncId) (A : Ty) (x : A.den) (p : DT → Bool) (l : List DT) (hF : ∀ y ∈ l, Fn Tryz.prog F (⟨tTour, y⟩ :: capD A x) false [⟨.bool, p y⟩]) : Fn Tryz.prog 100 [⟨.slice tTour, l⟩, ⟨.ext (.clo F) A, some x⟩] false [⟨.int, ixf (t := tTour) p l⟩] := by
  refine fn_enter tabOK mixes Tryz.func100 rfl rfl _ Tryz.ntmps100 _ Tryz.results100 (by simp) fun hwf => ?_
  have hl : l.length ≤ 9223372036854775807 := (hwf ⟨.slice tTour, l⟩ (by simp)).1
  try simp (config := { maxSteps := 10000000 }) only [go_sem]
  refine LoopG.intro _ _ _ (fun i : Nat => ⟨[(0, .sl tTour l), (1, .ex (.clo F) A (some x)), (7, .sc (.int .i64 l.length)), (8, .sc (.int .i64 i))], []⟩) (fun i => ∀ j < i, j < l.length → p (nth (t := tTour) l j) = false) (fun i => l.length - i) 0 ?_ (fun j h => by simp at h) ?_
  · refine Wk.mk [] ?_
    try simp (config := { maxSteps := 10000000 }) only [go_sem]
    try (and_intros <;> first | rfl | omega | exact ⟨_, rfl⟩)
  · rintro i h2
    try simp (config := { maxSteps := 10000000 }) only [go_sem]
    refine CondW_dec (fun h3 => ?_) (fun h3 => ?_)
    · have c1 := hF (nth (t := tTour) l i) (nth_memT (by omega))
      try simp (config := { maxSteps := 10000000 }) only [go_sem]
      repeat (refine And.intro (by first | omega | (constructor <;> omega) | kernel_rfl) ?_)
      repeat (refine And.intro (by first | omega | (constructor <;> omega) | kernel_rfl) ?_)
      refine CallD.mk (c1) ?_
      try simp (config := { maxSteps := 10000000 }) only [go_sem]
      refine CondW_b (fun h4 => ?_) (fun h4 => ?_)
      · try simp (config := { maxSteps := 10000000 }) only [go_sem]
        exact (ixf_at (by omega) h4 (fun j hj => h2 j hj (by omega))).symm
      · try simp (config := { maxSteps := 10000000 }) only [go_sem]
        repeat (refine And.intro (by first | omega | (constructor <;> omega) | kernel_rfl) ?_)
        refine LoopK.mk (i + 1) ?_ (fun j hj hl => ?_) (by omega)
        · refine Wk.mk [] ?_
          try simp (config := { maxSteps := 10000000 }) only [go_sem]
          try (and_intros <;> first | rfl | omega | exact ⟨_, rfl⟩)
        · by_cases hj2 : j < i
          · exact h2 j hj2 hl
          · rw [show j = i by omega]; exact h4
    · try simp (config := { maxSteps := 10000000 }) only [go_sem]
      exact (ixf_none fun j hj => h2 j (by omega) hj).symm
theorem containsFunc_tour_fn (F : FuncId) (A : Ty) (x : A.den) (p : DT → Bool) (l : List DT) (hF : ∀ y ∈ l, Fn Tryz.prog F (⟨tTour, y⟩ :: capD A x) false [⟨.bool, p y⟩]) : Fn Tryz.prog 50 [⟨.slice tTour, l⟩, ⟨.ext (.clo F) A, some x⟩] false [⟨.bool, l.any p⟩] := by
  have c1 := indexFunc_tour_fn F A x p l hF
  refine fn_enter tabOK mixes Tryz.func50 rfl rfl _ Tryz.ntmps50 _ Tryz.results50 (by simp) fun hwf => ?_
  try simp (config := { maxSteps := 10000000 }) only [go_sem]
  repeat (refine And.intro (by first | omega | (constructor <;> omega) | kernel_rfl) ?_)
  refine CallW.mk (c1) ?_
  try simp (config := { maxSteps := 10000000 }) only [go_sem]
  exact ixf_any
theorem areToursC_fn (a b : DT) (ha : tourB a = true) (hb : tourB b = true) : Fn Tryz.prog 51 [⟨tTour, b⟩, ⟨.ext .ref tTour, some a⟩] false [⟨.bool, stTB a 0 b 0⟩] := by
  have c1 := standsTouch_fn a 0 b 0 ha hb
  refine fn_enter tabOK mixes Tryz.func51 rfl rfl _ Tryz.ntmps51 _ Tryz.results51 (by simp) fun hwf => ?_
  try simp (config := { maxSteps := 10000000 }) only [go_sem]
  repeat (refine And.intro (by first | omega | (constructor <;> omega) | kernel_rfl) ?_)
  refine CallW.mk (c1) ?_
  try simp (config := { maxSteps := 10000000 }) only [go_sem]
  all_goals repeat (refine And.intro (by first | omega | (constructor <;> omega) | kernel_rfl) ?_)
  all_goals first | kernel_rfl | omega | rfl
def arAt (l : List DT) (i : Nat) : Prop := tourB (nth (t := tTour) l i) = true ∧ ∀ j, j < i → stTB (nth (t := tTour) l i) 0 (nth (t := tTour) l j) 0 = false
def arP (l : List DT) : Prop := ∀ i, i < l.length → arAt l i
noncomputable def arB (l : List DT) : Bool := decide (1 ≤ (l.length : Int) ∧ (l.length : Int) ≤ 3) && bdec (arP l)
theorem nth_take {l : List DT} {i j : Nat} (h : j < i) (h2 : i ≤ l.length) : nth (t := tTour) (l.take i) j = nth (t := tTour) l j := by
  rw [nth_lt (t := tTour) (l := l.take i) (by rw [List.length_take]; omega), nth_lt (t := tTour) (l := l) (by omega), List.getElem_take]
theorem mem_take_nth {l : List DT} {i : Nat} {y : DT} (h : y ∈ l.take i) (h2 : i ≤ l.length) : ∃ j, j < i ∧ nth (t := tTour) l j = y := by
  obtain ⟨j, hj, rfl⟩ := List.getElem_of_mem h
  rw [List.length_take] at hj
  exact ⟨j, by omega, by rw [← nth_take (by omega) h2, nth_lt]⟩
theorem AreToursI_fn (l : List DT) : Fn Tryz.prog 16 [⟨.slice tTour, l⟩] false [⟨.bool, arB l⟩] := by
  have c0 := within_fn l.length 1 3
  unfold arB
  by_cases h0 : 1 ≤ (l.length : Int) ∧ (l.length : Int) ≤ 3
  · rw [decide_eq_true h0] at c0 ⊢
    refine fn_enter tabOK mixes Tryz.func16 rfl rfl _ Tryz.ntmps16 _ Tryz.results16 (by simp) fun hwf => ?_
    try simp (config := { maxSteps := 10000000 }) only [go_sem]
    repeat (refine And.intro (by first | omega | (constructor <;> omega) | kernel_rfl) ?_)
    refine CallW.mk (c0) ?_
    try simp (config := { maxSteps := 10000000 }) only [go_sem]
    refine LoopG.intro _ _ _ (fun i : Nat => ⟨[(0, .sl tTour l), (9, .sl tTour l), (10, .sc (.int .i64 l.length)), (11, .sc (.int .i64 i))], []⟩) (fun i => i ≤ l.length ∧ ∀ j, j < i → arAt l j) (fun i => l.length - i) 0 ?_ ⟨Nat.zero_le _, fun j h => absurd h (Nat.not_lt_zero _)⟩ ?_
    · refine Wk.mk [] ?_
      try simp (config := { maxSteps := 10000000 }) only [go_sem]
      try (and_intros <;> first | rfl | omega | exact ⟨_, rfl⟩)
    · rintro i ⟨hi, hall⟩
      try simp (config := { maxSteps := 10000000 }) only [go_sem]
      refine CondW_dec (fun hA => ?_) (fun hA => ?_)
      · have hlt : i < l.length := by omega
        have c1 := implIsValidTour_fn (nth (t := tTour) l i)
        cases ht : tourB (nth (t := tTour) l i) <;> rw [ht] at c1
        · have e : bdec (arP l) = false := bdec_f fun h => by have := (h i hlt).1; rw [ht] at this; cases this
          rw [e]
          try simp (config := { maxSteps := 10000000 }) only [go_sem]
          repeat (refine And.intro (by first | omega | (constructor <;> omega) | kernel_rfl) ?_)
          repeat (refine And.intro (by first | omega | (constructor <;> omega) | kernel_rfl) ?_)
          refine CallW.mk (c1) ?_
          try simp (config := { maxSteps := 10000000 }) only [go_sem]
          all_goals repeat (refine And.intro (by first | omega | (constructor <;> omega) | kernel_rfl) ?_)
          all_goals first | kernel_rfl | omega | rfl
        · have hF : ∀ y ∈ l.take i, Fn Tryz.prog 51 (⟨tTour, y⟩ :: capD (.ext .ref tTour) (some (nth (t := tTour) l i))) false [⟨.bool, stTB (nth (t := tTour) l i) 0 y 0⟩] := fun y hy => by
            obtain ⟨j, hj, rfl⟩ := mem_take_nth hy (by omega)
            exact areToursC_fn _ _ ht (hall j hj).1
          have c2 := containsFunc_tour_fn 51 (.ext .ref tTour) (some (nth (t := tTour) l i)) (fun y => stTB (nth (t := tTour) l i) 0 y 0) (l.take i) hF
          cases ha : (l.take i).any (fun y => stTB (nth (t := tTour) l i) 0 y 0) <;> rw [ha] at c2
          · try simp (config := { maxSteps := 10000000 }) only [go_sem]
            repeat (refine And.intro (by first | omega | (constructor <;> omega) | kernel_rfl) ?_)
            repeat (refine And.intro (by first | omega | (constructor <;> omega) | kernel_rfl) ?_)
            refine CallW.mk (c1) ?_
            try simp (config := { maxSteps := 10000000 }) only [go_sem]
            repeat (refine And.intro (by first | omega | (constructor <;> omega) | kernel_rfl) ?_)
            repeat (refine And.intro (by first | omega | (constructor <;> omega) | kernel_rfl) ?_)
            refine CallK.mk (c2) ?_
            try simp (config := { maxSteps := 10000000 }) only [go_sem]
            repeat (refine And.intro (by first | omega | (constructor <;> omega) | kernel_rfl) ?_)
            refine LoopK.mk (i + 1) ?_ ⟨by omega, fun j hj => ?_⟩ (by omega)
            · refine Wk.mk [] ?_
              try simp (config := { maxSteps := 10000000 }) only [go_sem]
              try (and_intros <;> first | rfl | omega | exact ⟨_, rfl⟩)
            · by_cases h : j < i
              · exact hall j h
              · rw [show j = i by omega]
                refine ⟨ht, fun j' hj' => ?_⟩
                rw [List.any_eq_false] at ha
                have := ha (nth (t := tTour) l j') (by rw [← nth_take hj' (by omega)]; exact nth_memT (t := tTour) (by rw [List.length_take]; omega))
                simpa using this
          · have e : bdec (arP l) = false := bdec_f fun h => by
              obtain ⟨y, hy, hyt⟩ := List.any_eq_true.1 ha
              obtain ⟨j, hj, rfl⟩ := mem_take_nth hy (by omega)
              have := (h i hlt).2 j hj
              rw [this] at hyt; cases hyt
            rw [e]
            try simp (config := { maxSteps := 10000000 }) only [go_sem]
            repeat (refine And.intro (by first | omega | (constructor <;> omega) | kernel_rfl) ?_)
            repeat (refine And.intro (by first | omega | (constructor <;> omega) | kernel_rfl) ?_)
            refine CallW.mk (c1) ?_
            try simp (config := { maxSteps := 10000000 }) only [go_sem]
            repeat (refine And.intro (by first | omega | (constructor <;> omega) | kernel_rfl) ?_)
            repeat (refine And.intro (by first | omega | (constructor <;> omega) | kernel_rfl) ?_)
            refine CallK.mk (c2) ?_
            try simp (config := { maxSteps := 10000000 }) only [go_sem]
            all_goals repeat (refine And.intro (by first | omega | (constructor <;> omega) | kernel_rfl) ?_)
            all_goals first | kernel_rfl | omega | rfl
      · have e : bdec (arP l) = true := bdec_t fun j hj => hall j (by omega)
        rw [e]
        try simp (config := { maxSteps := 10000000 }) only [go_sem]
        all_goals repeat (refine And.intro (by first | omega | (constructor <;> omega) | kernel_rfl) ?_)
        all_goals first | kernel_rfl | omega | rfl
  · rw [decide_eq_false h0] at c0 ⊢
    refine fn_enter tabOK mixes Tryz.func16 rfl rfl _ Tryz.ntmps16 _ Tryz.results16 (by simp) fun hwf => ?_
    try simp (config := { maxSteps := 10000000 }) only [go_sem]
    repeat (refine And.intro (by first | omega | (constructor <;> omega) | kernel_rfl) ?_)
    refine CallW.mk (c0) ?_
    try simp (config := { maxSteps := 10000000 }) only [go_sem]
    all_goals repeat (refine And.intro (by first | omega | (constructor <;> omega) | kernel_rfl) ?_)
    all_goals first | kernel_rfl | omega | rfl
theorem stTouch_tt {a b : DT} (ha : tourB a = true) (hb : tourB b = true) : stTouch b 0 a 0 = stTB a 0 b 0 := by
  unfold stTouch standB
  rw [ha, hb, decide_eq_true (p := 0 ≤ (0 : Int) ∧ (0 : Int) ≤ (b.2.2.length : Int)) (by omega), decide_eq_true (p := 0 ≤ (0 : Int) ∧ (0 : Int) ≤ (a.2.2.length : Int)) (by omega), Bool.and_self, Bool.true_and, Bool.true_and, stTB_symm hb ha]
theorem AreToursS_fn (l : List DT) : Fn Tryz.prog 14 [⟨.slice tTour, l⟩] false [⟨.bool, arB l⟩] := by
  have c0 := l01In_fn l.length 1 3
  unfold arB
  refine fn_enter tabOK mixes Tryz.func14 rfl rfl _ Tryz.ntmps14 _ Tryz.results14 (by simp) fun hwf => ?_
  have hl : l.length ≤ 9223372036854775807 := (hwf ⟨.slice tTour, l⟩ (by simp)).1
  try simp (config := { maxSteps := 10000000 }) only [go_sem]
  refine LoopG.intro _ _ _ (fun i : Nat => ⟨[(0, .sl tTour l), (7, .sl tTour l), (8, .sc (.int .i64 l.length)), (9, .sc (.int .i64 i))], []⟩) (fun i => i ≤ l.length ∧ ∀ j, j < i → arAt l j) (fun i => l.length - i) 0 ?_ ⟨Nat.zero_le _, fun j h => absurd h (Nat.not_lt_zero _)⟩ ?_
  · refine Wk.mk [] ?_
    try simp (config := { maxSteps := 10000000 }) only [go_sem]
    try (and_intros <;> first | rfl | omega | exact ⟨_, rfl⟩)
  · rintro i ⟨hi, hall⟩
    try simp (config := { maxSteps := 10000000 }) only [go_sem]
    refine CondW_dec (fun hA => ?_) (fun hA => ?_)
    · have hlt : i < l.length := by omega
      have c1 := specIsValidTour_fn (nth (t := tTour) l i)
      cases ht : tourB (nth (t := tTour) l i) <;> rw [ht] at c1
      · have e : bdec (arP l) = false := bdec_f fun h => by have := (h i hlt).1; rw [ht] at this; cases this
        rw [e, Bool.and_false]
        try simp (config := { maxSteps := 10000000 }) only [go_sem]
        repeat (refine And.intro (by first | omega | (constructor <;> omega) | kernel_rfl) ?_)
        repeat (refine And.intro (by first | omega | (constructor <;> omega) | kernel_rfl) ?_)
        refine CallW.mk (c1) ?_
        try simp (config := { maxSteps := 10000000 }) only [go_sem]
        all_goals repeat (refine And.intro (by first | omega | (constructor <;> omega) | kernel_rfl) ?_)
        all_goals first | kernel_rfl | omega | rfl
      · have hlm : (l.take i).length = i := by rw [List.length_take]; omega
        try simp (config := { maxSteps := 10000000 }) only [go_sem]
        repeat (refine And.intro (by first | omega | (constructor <;> omega) | kernel_rfl) ?_)
        repeat (refine And.intro (by first | omega | (constructor <;> omega) | kernel_rfl) ?_)
        refine CallW.mk (c1) ?_
        try simp (config := { maxSteps := 10000000 }) only [go_sem]
        repeat (refine And.intro (by first | omega | (constructor <;> omega) | kernel_rfl) ?_)
        try simp (config := { maxSteps := 10000000 }) only [go_sem, hlm]
        refine LoopG.intro _ _ _ (fun j : Nat => ⟨[(0, .sl tTour l), (4, .ptr 0 0), (7, .sl tTour l), (8, .sc (.int .i64 l.length)), (9, .sc (.int .i64 i)), (19, .sl tTour (l.take i)), (20, .sc (.int .i64 i)), (21, .sc (.int .i64 j))], [(0, .box (cel tTour (nth (t := tTour) l i)))]⟩) (fun j => j ≤ i ∧ ∀ j', j' < j → stTB (nth (t := tTour) l i) 0 (nth (t := tTour) l j') 0 = false) (fun j => i - j) 0 ?_ ⟨Nat.zero_le _, fun j h => absurd h (Nat.not_lt_zero _)⟩ ?_
        · refine Wk.mk [] ?_
          try simp (config := { maxSteps := 10000000 }) only [go_sem]
          try (and_intros <;> first | rfl | omega | exact ⟨_, rfl⟩)
        · rintro j ⟨hj, hno⟩
          try simp (config := { maxSteps := 10000000 }) only [go_sem]
          refine CondW_dec (fun hB => ?_) (fun hB => ?_)
          · have hjl : j < i := by omega
            have htj := (hall j hjl).1
            have c2 := StandsTouchS_fn (nth (t := tTour) l j) 0 (nth (t := tTour) l i) 0
            rw [stTouch_tt ht htj] at c2
            rw [← nth_take hjl (by omega)] at c2
            cases hs : stTB (nth (t := tTour) l i) 0 (nth (t := tTour) l j) 0 <;> rw [nth_take hjl (by omega), hs] at c2 <;> rw [← nth_take hjl (by omega)] at c2
            · try simp (config := { maxSteps := 10000000 }) only [go_sem, hlm]
              repeat (refine And.intro (by first | omega | (constructor <;> omega) | kernel_rfl) ?_)
              repeat (refine And.intro (by first | omega | (constructor <;> omega) | kernel_rfl) ?_)
              refine CallW.mk (c2) ?_
              try simp (config := { maxSteps := 10000000 }) only [go_sem]
              repeat (refine And.intro (by first | omega | (constructor <;> omega) | kernel_rfl) ?_)
              refine LoopK.mk (j + 1) ?_ ⟨by omega, fun j' hj' => ?_⟩ (by omega)
              · refine Wk.mk [] ?_
                try simp (config := { maxSteps := 10000000 }) only [go_sem]
                try (and_intros <;> first | rfl | omega | exact ⟨_, rfl⟩)
              · by_cases h : j' < j
                · exact hno j' h
                · rw [show j' = j by omega]; exact hs
            · have e : bdec (arP l) = false := bdec_f fun h => by have := (h i hlt).2 j hjl; rw [hs] at this; cases this
              rw [e, Bool.and_false]
              try simp (config := { maxSteps := 10000000 }) only [go_sem, hlm]
              repeat (refine And.intro (by first | omega | (constructor <;> omega) | kernel_rfl) ?_)
              repeat (refine And.intro (by first | omega | (constructor <;> omega) | kernel_rfl) ?_)
              refine CallW.mk (c2) ?_
              try simp (config := { maxSteps := 10000000 }) only [go_sem]
              all_goals repeat (refine And.intro (by first | omega | (constructor <;> omega) | kernel_rfl) ?_)
              all_goals first | kernel_rfl | omega | rfl
          · try simp (config := { maxSteps := 10000000 }) only [go_sem]
            repeat (refine And.intro (by first | omega | (constructor <;> omega) | kernel_rfl) ?_)
            refine LoopK.mk (i + 1) ?_ ⟨by omega, fun j' hj' => ?_⟩ (by omega)
            · refine Wk.mk [] ?_
              try simp (config := { maxSteps := 10000000 }) only [go_sem]
              try (and_intros <;> first | rfl | omega | exact ⟨_, rfl⟩)
            · by_cases h : j' < i
              · exact hall j' h
              · rw [show j' = i by omega]
                exact ⟨ht, fun j2 hj2 => hno j2 (by omega)⟩
    · have e : bdec (arP l) = true := bdec_t fun j hj => hall j (by omega)
      rw [e, Bool.and_true]
      try simp (config := { maxSteps := 10000000 }) only [go_sem]
      repeat (refine And.intro (by first | omega | (constructor <;> omega) | kernel_rfl) ?_)
      refine CallW.mk (c0) ?_
      try simp (config := { maxSteps := 10000000 }) only [go_sem]
      all_goals repeat (refine And.intro (by first | omega | (constructor <;> omega) | kernel_rfl) ?_)
      all_goals first | kernel_rfl | omega | rfl
end Go.Proofs.YtghckbohaghgkaaGreat.DW

/-
  The laws' helpers for vectors and tours, as contracts on data.
-/
namespace Go.Proofs.YtghckbohaghgkaaGreat
open Go.RowKit
abbrev DVec := Int × Int
abbrev RVec : Rp DVec := Rp.prod Rp.int Rp.int
abbrev DVecS := List DVec
abbrev RVecS : Rp DVecS := Rp.slice RVec (by decide)
abbrev DTour := DVecS × (DPlacement × DStepS)
abbrev RTour : Rp DTour := Rp.prod RVecS (Rp.prod RPlacement RStepS)
def tTour (x : DTour) : Nat := (x.1.length + tPlacement x.2.1) + (x.2.2.length + tStepS x.2.2)
namespace DW
theorem szVecS_fn (x : DVecS) (left : Int) (h0 : 0 ≤ left) (h1 : left ≤ 1048576) : Fn Tryz.prog 30 [⟨.slice DW.tVec, x⟩, ⟨.int, left⟩] false [⟨.int, szr left x.length⟩] := by
  by_cases h : (x.length : Int) ≤ left
  · rw [← szr_ge h]
    have d := decide_eq_false (p := left - (x.length : Int) < 0) (by omega)
    refine fn_enter tabOK mixes Tryz.func30 rfl rfl _ Tryz.ntmps30 _ Tryz.results30 (by simp) fun hwf => ?_
    have hl : x.length ≤ 9223372036854775807 := (hwf ⟨.slice DW.tVec, x⟩ (by simp)).1
    try simp (config := { maxSteps := 10000000 }) only [go_sem]
    repeat (refine And.intro (by first | omega | (constructor <;> omega) | kernel_rfl) ?_)
    try simp (config := { maxSteps := 10000000 }) only [go_sem, d]
    all_goals repeat (refine And.intro (by first | omega | (constructor <;> omega) | kernel_rfl) ?_)
    all_goals first | kernel_rfl | omega | rfl
  · rw [← szr_lt (by omega)]
    have d := decide_eq_true (p := left - (x.length : Int) < 0) (by omega)
    refine fn_enter tabOK mixes Tryz.func30 rfl rfl _ Tryz.ntmps30 _ Tryz.results30 (by simp) fun hwf => ?_
    have hl : x.length ≤ 9223372036854775807 := (hwf ⟨.slice DW.tVec, x⟩ (by simp)).1
    try simp (config := { maxSteps := 10000000 }) only [go_sem]
    repeat (refine And.intro (by first | omega | (constructor <;> omega) | kernel_rfl) ?_)
    try simp (config := { maxSteps := 10000000 }) only [go_sem, d]
    all_goals repeat (refine And.intro (by first | omega | (constructor <;> omega) | kernel_rfl) ?_)
    all_goals first | kernel_rfl | omega | rfl
theorem toVec_fn (x : DVec) : Fn Tryz.prog 80 [⟨DW.tVec, x⟩] false [⟨DW.tVec, x⟩] := by
  refine fn_enter tabOK mixes Tryz.func80 rfl rfl _ Tryz.ntmps80 _ Tryz.results80 (by simp) fun hwf => ?_
  try simp (config := { maxSteps := 10000000 }) only [go_sem]
  all_goals repeat (refine And.intro (by first | omega | (constructor <;> omega) | kernel_rfl) ?_)
  all_goals first | kernel_rfl | omega | rfl
theorem toVecS_fn (x : DVecS) (hs : x.length ≤ 1048576) : Fn Tryz.prog 38 [⟨.slice DW.tVec, x⟩] true [⟨.slice DW.tVec, x⟩] := by
  refine fn_enter tabOK mixes Tryz.func38 rfl rfl _ Tryz.ntmps38 _ Tryz.results38 (by simp) fun hwf => ?_
  try simp (config := { maxSteps := 10000000 }) only [go_sem]
  repeat (refine And.intro (by first | omega | (constructor <;> omega) | kernel_rfl) ?_)
  refine LoopG.intro _ _ _ (fun i : Nat => ⟨[(0, .sl DW.tVec x), (3, .row 0 0), (4, .sc (.int .i64 i))], [(0, .row 113 DW.tVec 0 true (x.take i ++ List.replicate (x.length - i) ((0 : Int), (0 : Int))))]⟩) (fun i => i ≤ x.length) (fun i => x.length - i) 0 ?_ (Nat.zero_le _) ?_
  · refine Wk.mk [] ?_
    try simp (config := { maxSteps := 10000000 }) only [go_sem]
    try (and_intros <;> first | rfl | omega | exact ⟨_, rfl⟩)
  · rintro i hi
    have hlen : (x.take i ++ List.replicate (x.length - i) ((0 : Int), (0 : Int))).length = x.length := by simp; omega
    try simp (config := { maxSteps := 10000000 }) only [go_sem]
    refine CondW_dec (fun hA => ?_) (fun hA => ?_)
    · have hset : (x.take i ++ List.replicate (x.length - i) ((0 : Int), (0 : Int))).set i (nth (t := DW.tVec) x i) = x.take (i + 1) ++ List.replicate (x.length - (i + 1)) ((0 : Int), (0 : Int)) := by
        have hlt : i < x.length := by omega
        rw [List.set_append_right _ _ (by rw [List.length_take]; omega), List.length_take, show i - min i x.length = 0 by omega, show x.length - i = (x.length - (i + 1)) + 1 by omega, List.replicate_succ, List.set_cons_zero, nth_lt hlt]
        have e : x.take (i + 1) = x.take i ++ [x[i]] := List.take_succ_eq_append_getElem hlt
        rw [e, List.append_assoc]; rfl
      have ht : (List.take i x).length = i := by rw [List.length_take]; omega
      have c1 := toVec_fn (nth (t := DW.tVec) x i)
      try simp (config := { maxSteps := 10000000 }) only [go_sem]
      repeat (refine And.intro (by first | omega | (constructor <;> omega) | kernel_rfl) ?_)
      repeat (refine And.intro (by first | omega | (constructor <;> omega) | kernel_rfl) ?_)
      refine CallW.mk (c1) ?_
      try simp (config := { maxSteps := 10000000 }) only [go_sem]
      repeat (refine And.intro (by first | omega | (constructor <;> omega) | kernel_rfl) ?_)
      refine LoopK.mk (i + 1) ?_ (by omega) (by omega)
      rw [← hset]
      refine Wk.mk [] ?_
      try simp (config := { maxSteps := 10000000 }) only [go_sem]
      try (and_intros <;> first | rfl | omega | exact ⟨_, rfl⟩)
    · have : x.take i ++ List.replicate (x.length - i) ((0 : Int), (0 : Int)) = x := by
        rw [List.take_of_length_le (by omega), show x.length - i = 0 by omega]; simp
      rw [this]
      try simp (config := { maxSteps := 10000000 }) only [go_sem]
      all_goals repeat (refine And.intro (by first | omega | (constructor <;> omega) | kernel_rfl) ?_)
      all_goals first | kernel_rfl | omega | rfl
theorem eqVec_fn (x y : DVec) : Fn Tryz.prog 88 [⟨DW.tVec, x⟩, ⟨DW.tVec, y⟩] false [⟨.bool, eqb x y⟩] := by
  by_cases h1 : x.1 = y.1
  · have d1 := decide_eq_true h1
    by_cases h2 : x.2 = y.2
    · have d2 := decide_eq_true h2
      rw [eqb_true (Prod.ext h1 h2)]
      refine fn_enter tabOK mixes Tryz.func88 rfl rfl _ Tryz.ntmps88 _ Tryz.results88 (by simp) fun hwf => ?_
      try simp (config := { maxSteps := 10000000 }) only [go_sem, d1, d2]
    · have d2 := decide_eq_false h2
      rw [eqb_false (fun h => h2 (by rw [h]))]
      refine fn_enter tabOK mixes Tryz.func88 rfl rfl _ Tryz.ntmps88 _ Tryz.results88 (by simp) fun hwf => ?_
      try simp (config := { maxSteps := 10000000 }) only [go_sem, d1, d2]
  · have d1 := decide_eq_false h1
    rw [eqb_false (fun h => h1 (by rw [h]))]
    refine fn_enter tabOK mixes Tryz.func88 rfl rfl _ Tryz.ntmps88 _ Tryz.results88 (by simp) fun hwf => ?_
    try simp (config := { maxSteps := 10000000 }) only [go_sem, d1]
theorem eqVecS_fn (x y : DVecS) : Fn Tryz.prog 43 [⟨.slice DW.tVec, x⟩, ⟨.slice DW.tVec, y⟩] false [⟨.bool, eqb x y⟩] := by
  by_cases h0 : (x.length : Int) = y.length
  · have d0 := decide_eq_true h0
    refine fn_enter tabOK mixes Tryz.func43 rfl rfl _ Tryz.ntmps43 _ Tryz.results43 (by simp) fun hwf => ?_
    have hl : x.length ≤ 9223372036854775807 := (hwf ⟨.slice DW.tVec, x⟩ (by simp)).1
    try simp (config := { maxSteps := 10000000 }) only [go_sem, d0]
    refine LoopG.intro _ _ _ (fun i : Nat => ⟨[(0, .sl DW.tVec x), (1, .sl DW.tVec y), (5, .sc (.int .i64 i))], []⟩) (fun i => ∀ j, j < i → j < x.length → nth (t := DW.tVec) x j = nth (t := DW.tVec) y j) (fun i => x.length - i) 0 ?_ (fun j h => absurd h (Nat.not_lt_zero _)) ?_
    · refine Wk.mk [] ?_
      try simp (config := { maxSteps := 10000000 }) only [go_sem]
      try (and_intros <;> first | rfl | omega | exact ⟨_, rfl⟩)
    · rintro i hi
      try simp (config := { maxSteps := 10000000 }) only [go_sem]
      refine CondW_dec (fun hA => ?_) (fun hA => ?_)
      · have c1 := eqVec_fn (nth (t := DW.tVec) x i) (nth (t := DW.tVec) y i)
        by_cases e : nth (t := DW.tVec) x i = nth (t := DW.tVec) y i
        · rw [eqb_true e] at c1
          try simp (config := { maxSteps := 10000000 }) only [go_sem]
          repeat (refine And.intro (by first | omega | (constructor <;> omega) | kernel_rfl) ?_)
          repeat (refine And.intro (by first | omega | (constructor <;> omega) | kernel_rfl) ?_)
          refine CallW.mk (c1) ?_
          try simp (config := { maxSteps := 10000000 }) only [go_sem]
          repeat (refine And.intro (by first | omega | (constructor <;> omega) | kernel_rfl) ?_)
          refine LoopK.mk (i + 1) ?_ (fun j h1 h2 => ?_) (by omega)
          · refine Wk.mk [] ?_
            try simp (config := { maxSteps := 10000000 }) only [go_sem]
            try (and_intros <;> first | rfl | omega | exact ⟨_, rfl⟩)
          · by_cases h3 : j < i
            · exact hi j h3 h2
            · rw [show j = i by omega]; exact e
        · rw [eqb_false e] at c1
          rw [eqb_false (fun h => e (by rw [h]))]
          try simp (config := { maxSteps := 10000000 }) only [go_sem]
          repeat (refine And.intro (by first | omega | (constructor <;> omega) | kernel_rfl) ?_)
          repeat (refine And.intro (by first | omega | (constructor <;> omega) | kernel_rfl) ?_)
          refine CallW.mk (c1) ?_
          try simp (config := { maxSteps := 10000000 }) only [go_sem]
          all_goals repeat (refine And.intro (by first | omega | (constructor <;> omega) | kernel_rfl) ?_)
          all_goals first | kernel_rfl | omega | rfl
      · have : x = y := by
          refine List.ext_getElem (by omega) fun j h1 h2 => ?_
          have := hi j (by omega) h1
          rwa [nth_lt h1, nth_lt h2] at this
        rw [eqb_true this]
        try simp (config := { maxSteps := 10000000 }) only [go_sem]
  · have d0 := decide_eq_false h0
    rw [eqb_false (fun h => h0 (by rw [h]))]
    refine fn_enter tabOK mixes Tryz.func43 rfl rfl _ Tryz.ntmps43 _ Tryz.results43 (by simp) fun hwf => ?_
    try simp (config := { maxSteps := 10000000 }) only [go_sem, d0]
theorem szTour_fn (x : DTour) (left : Int) (h0 : 0 ≤ left) (h1 : left ≤ 1048576) : Fn Tryz.prog 8 [⟨DW.tTour, x⟩, ⟨.int, left⟩] false [⟨.int, szr left (Go.Proofs.YtghckbohaghgkaaGreat.tTour x)⟩] := by
  obtain ⟨r, p, l⟩ := x
  have c1 := szVecS_fn r left h0 h1
  have r1 := szr_lo left r.length h0
  have hT : Go.Proofs.YtghckbohaghgkaaGreat.tTour (r, p, l) = (r.length + tPlacement p) + (l.length + tStepS l) := rfl
  by_cases e1 : szr left r.length < 0
  · have d1 := decide_eq_true e1
    rw [← szr_fail e1 (b := Go.Proofs.YtghckbohaghgkaaGreat.tTour (r, p, l)) (by omega)]
    refine fn_enter tabOK mixes Tryz.func8 rfl rfl _ Tryz.ntmps8 _ Tryz.results8 (by simp) fun hwf => ?_
    try simp (config := { maxSteps := 10000000 }) only [go_sem]
    repeat (refine And.intro (by first | omega | (constructor <;> omega) | kernel_rfl) ?_)
    refine CallW.mk (c1) ?_
    try simp (config := { maxSteps := 10000000 }) only [go_sem]
    try simp (config := { maxSteps := 10000000 }) only [go_sem, d1]
    all_goals repeat (refine And.intro (by first | omega | (constructor <;> omega) | kernel_rfl) ?_)
    all_goals first | kernel_rfl | omega | rfl
  · have d1 := decide_eq_false e1
    have c2 := szPlacement_fn p (szr left r.length) (by omega) (by omega)
    have r2 := szr_lo (szr left r.length) (tPlacement p) (by omega)
    have a2 := szr_add left r.length (tPlacement p) (by omega)
    by_cases e2 : szr (szr left r.length) (tPlacement p) < 0
    · have d2 := decide_eq_true e2
      rw [← szr_fail (by rw [← a2]; exact e2) (a := r.length + tPlacement p) (b := Go.Proofs.YtghckbohaghgkaaGreat.tTour (r, p, l)) (by omega)]
      refine fn_enter tabOK mixes Tryz.func8 rfl rfl _ Tryz.ntmps8 _ Tryz.results8 (by simp) fun hwf => ?_
      try simp (config := { maxSteps := 10000000 }) only [go_sem]
      repeat (refine And.intro (by first | omega | (constructor <;> omega) | kernel_rfl) ?_)
      refine CallW.mk (c1) ?_
      try simp (config := { maxSteps := 10000000 }) only [go_sem]
      try simp (config := { maxSteps := 10000000 }) only [go_sem, d1]
      repeat (refine And.intro (by first | omega | (constructor <;> omega) | kernel_rfl) ?_)
      refine CallW.mk (c2) ?_
      try simp (config := { maxSteps := 10000000 }) only [go_sem]
      try simp (config := { maxSteps := 10000000 }) only [go_sem, d2]
      all_goals repeat (refine And.intro (by first | omega | (constructor <;> omega) | kernel_rfl) ?_)
      all_goals first | kernel_rfl | omega | rfl
    · have d2 := decide_eq_false e2
      have c3 := szStepS_fn l (szr (szr left r.length) (tPlacement p)) (by omega) (by omega)
      have r3 := szr_lo (szr (szr left r.length) (tPlacement p)) (l.length + tStepS l) (by omega)
      have a3 := szr_add left (r.length + tPlacement p) (l.length + tStepS l) (by rw [← a2]; omega)
      rw [← a2] at a3
      rw [hT, ← a3]
      by_cases e3 : szr (szr (szr left r.length) (tPlacement p)) (l.length + tStepS l) < 0
      · have d3 := decide_eq_true e3
        have e4 : szr (szr (szr left r.length) (tPlacement p)) (l.length + tStepS l) = -1 := by omega
        rw [e4] at d3 c3 ⊢
        refine fn_enter tabOK mixes Tryz.func8 rfl rfl _ Tryz.ntmps8 _ Tryz.results8 (by simp) fun hwf => ?_
        try simp (config := { maxSteps := 10000000 }) only [go_sem]
        repeat (refine And.intro (by first | omega | (constructor <;> omega) | kernel_rfl) ?_)
        refine CallW.mk (c1) ?_
        try simp (config := { maxSteps := 10000000 }) only [go_sem]
        try simp (config := { maxSteps := 10000000 }) only [go_sem, d1]
        repeat (refine And.intro (by first | omega | (constructor <;> omega) | kernel_rfl) ?_)
        refine CallW.mk (c2) ?_
        try simp (config := { maxSteps := 10000000 }) only [go_sem]
        try simp (config := { maxSteps := 10000000 }) only [go_sem, d2]
        repeat (refine And.intro (by first | omega | (constructor <;> omega) | kernel_rfl) ?_)
        refine CallW.mk (c3) ?_
        try simp (config := { maxSteps := 10000000 }) only [go_sem]
        all_goals repeat (refine And.intro (by first | omega | (constructor <;> omega) | kernel_rfl) ?_)
        all_goals first | kernel_rfl | omega | rfl
      · have d3 := decide_eq_false e3
        refine fn_enter tabOK mixes Tryz.func8 rfl rfl _ Tryz.ntmps8 _ Tryz.results8 (by simp) fun hwf => ?_
        try simp (config := { maxSteps := 10000000 }) only [go_sem]
        repeat (refine And.intro (by first | omega | (constructor <;> omega) | kernel_rfl) ?_)
        refine CallW.mk (c1) ?_
        try simp (config := { maxSteps := 10000000 }) only [go_sem]
        try simp (config := { maxSteps := 10000000 }) only [go_sem, d1]
        repeat (refine And.intro (by first | omega | (constructor <;> omega) | kernel_rfl) ?_)
        refine CallW.mk (c2) ?_
        try simp (config := { maxSteps := 10000000 }) only [go_sem]
        try simp (config := { maxSteps := 10000000 }) only [go_sem, d2]
        repeat (refine And.intro (by first | omega | (constructor <;> omega) | kernel_rfl) ?_)
        refine CallW.mk (c3) ?_
        try simp (config := { maxSteps := 10000000 }) only [go_sem]
        try simp (config := { maxSteps := 10000000 }) only [go_sem, d3]
        all_goals repeat (refine And.intro (by first | omega | (constructor <;> omega) | kernel_rfl) ?_)
        all_goals first | kernel_rfl | omega | rfl
theorem toTour_fn (x : DTour) (hs : Go.Proofs.YtghckbohaghgkaaGreat.tTour x ≤ 1048576) : Fn Tryz.prog 10 [⟨DW.tTour, x⟩] true [⟨DW.tTour, x⟩] := by
  obtain ⟨r, p, l⟩ := x
  have hT : Go.Proofs.YtghckbohaghgkaaGreat.tTour (r, p, l) = (r.length + tPlacement p) + (l.length + tStepS l) := rfl
  have c1 := toVecS_fn r (by omega)
  have c2 := toPlacement_fn p (by omega)
  have c3 := toStepS_fn l (by omega)
  refine fn_enter tabOK mixes Tryz.func10 rfl rfl _ Tryz.ntmps10 _ Tryz.results10 (by simp) fun hwf => ?_
  try simp (config := { maxSteps := 10000000 }) only [go_sem]
  repeat (refine And.intro (by first | omega | (constructor <;> omega) | kernel_rfl) ?_)
  refine CallW.mk (c1) ?_
  try simp (config := { maxSteps := 10000000 }) only [go_sem]
  repeat (refine And.intro (by first | omega | (constructor <;> omega) | kernel_rfl) ?_)
  refine CallW.mk (c2) ?_
  try simp (config := { maxSteps := 10000000 }) only [go_sem]
  repeat (refine And.intro (by first | omega | (constructor <;> omega) | kernel_rfl) ?_)
  refine CallW.mk (c3) ?_
  try simp (config := { maxSteps := 10000000 }) only [go_sem]
  all_goals repeat (refine And.intro (by first | omega | (constructor <;> omega) | kernel_rfl) ?_)
  all_goals first | kernel_rfl | omega | rfl
theorem eqTour_fn (x y : DTour) : Fn Tryz.prog 12 [⟨DW.tTour, x⟩, ⟨DW.tTour, y⟩] false [⟨.bool, eqb x y⟩] := by
  obtain ⟨r, p, l⟩ := x
  obtain ⟨r', p', l'⟩ := y
  have c1 := eqVecS_fn r r'
  have c2 := eqPlacement_fn p p'
  have c3 := eqStepS_fn l l'
  by_cases e1 : r = r'
  · rw [eqb_true e1] at c1
    by_cases e2 : p = p'
    · rw [eqb_true e2] at c2
      by_cases e3 : l = l'
      · rw [eqb_true e3] at c3
        rw [eqb_true (by rw [e1, e2, e3])]
        refine fn_enter tabOK mixes Tryz.func12 rfl rfl _ Tryz.ntmps12 _ Tryz.results12 (by simp) fun hwf => ?_
        try simp (config := { maxSteps := 10000000 }) only [go_sem]
        repeat (refine And.intro (by first | omega | (constructor <;> omega) | kernel_rfl) ?_)
        refine CallW.mk (c1) ?_
        try simp (config := { maxSteps := 10000000 }) only [go_sem]
        repeat (refine And.intro (by first | omega | (constructor <;> omega) | kernel_rfl) ?_)
        refine CallW.mk (c2) ?_
        try simp (config := { maxSteps := 10000000 }) only [go_sem]
        repeat (refine And.intro (by first | omega | (constructor <;> omega) | kernel_rfl) ?_)
        refine CallW.mk (c3) ?_
        try simp (config := { maxSteps := 10000000 }) only [go_sem]
      · rw [eqb_false e3] at c3
        rw [eqb_false (fun h => e3 (congrArg (fun z => z.2.2) h))]
        refine fn_enter tabOK mixes Tryz.func12 rfl rfl _ Tryz.ntmps12 _ Tryz.results12 (by simp) fun hwf => ?_
        try simp (config := { maxSteps := 10000000 }) only [go_sem]
        repeat (refine And.intro (by first | omega | (constructor <;> omega) | kernel_rfl) ?_)
        refine CallW.mk (c1) ?_
        try simp (config := { maxSteps := 10000000 }) only [go_sem]
        repeat (refine And.intro (by first | omega | (constructor <;> omega) | kernel_rfl) ?_)
        refine CallW.mk (c2) ?_
        try simp (config := { maxSteps := 10000000 }) only [go_sem]
        repeat (refine And.intro (by first | omega | (constructor <;> omega) | kernel_rfl) ?_)
        refine CallW.mk (c3) ?_
        try simp (config := { maxSteps := 10000000 }) only [go_sem]
    · rw [eqb_false e2] at c2
      rw [eqb_false (fun h => e2 (congrArg (fun z => z.2.1) h))]
      refine fn_enter tabOK mixes Tryz.func12 rfl rfl _ Tryz.ntmps12 _ Tryz.results12 (by simp) fun hwf => ?_
      try simp (config := { maxSteps := 10000000 }) only [go_sem]
      repeat (refine And.intro (by first | omega | (constructor <;> omega) | kernel_rfl) ?_)
      refine CallW.mk (c1) ?_
      try simp (config := { maxSteps := 10000000 }) only [go_sem]
      repeat (refine And.intro (by first | omega | (constructor <;> omega) | kernel_rfl) ?_)
      refine CallW.mk (c2) ?_
      try simp (config := { maxSteps := 10000000 }) only [go_sem]
  · rw [eqb_false e1] at c1
    rw [eqb_false (fun h => e1 (congrArg (fun z => z.1) h))]
    refine fn_enter tabOK mixes Tryz.func12 rfl rfl _ Tryz.ntmps12 _ Tryz.results12 (by simp) fun hwf => ?_
    try simp (config := { maxSteps := 10000000 }) only [go_sem]
    repeat (refine And.intro (by first | omega | (constructor <;> omega) | kernel_rfl) ?_)
    refine CallW.mk (c1) ?_
    try simp (config := { maxSteps := 10000000 }) only [go_sem]
end DW
end Go.Proofs.YtghckbohaghgkaaGreat

/-
  The laws' helpers for lists of tours, as contracts on data.
-/
namespace Go.Proofs.YtghckbohaghgkaaGreat
open Go.RowKit
abbrev DTourS := List DTour
abbrev RTourS : Rp DTourS := Rp.slice RTour (by decide)
def tTourS : DTourS → Nat
  | [] => 0
  | x :: l => tTour x + tTourS l
theorem tTourS_snoc (l : DTourS) (x : DTour) : tTourS (l ++ [x]) = tTourS l + tTour x := by
  induction l with
  | nil => simp [tTourS]
  | cons y l ih => simp [tTourS, ih]; omega
theorem tTourS_take (l : DTourS) (k : Nat) : tTourS (l.take k) ≤ tTourS l := by
  induction l generalizing k with
  | nil => simp [tTourS]
  | cons y l ih => cases k with
    | zero => simp [tTourS]
    | succ k => have := ih k; simp [tTourS]; omega
theorem tTourS_mem {l : DTourS} {i : Nat} (h : i < l.length) : tTour l[i] ≤ tTourS l := by
  have h1 := tTourS_take l (i + 1)
  rw [List.take_succ_eq_append_getElem h, tTourS_snoc] at h1
  omega
namespace DW
@[go_sem] theorem bts_Tour : bts Tryz.prog 47 = some 168 := by kernel_rfl
theorem szTourS_fn (x : DTourS) (left : Int) (h0 : 0 ≤ left) (h1 : left ≤ 1048576) : Fn Tryz.prog 13 [⟨.slice DW.tTour, x⟩, ⟨.int, left⟩] false [⟨.int, szr left (x.length + tTourS x)⟩] := by
  by_cases h : left - (x.length : Int) < 0
  · rw [← szr_lt (by omega)]
    have d := decide_eq_true h
    refine fn_enter tabOK mixes Tryz.func13 rfl rfl _ Tryz.ntmps13 _ Tryz.results13 (by simp) fun hwf => ?_
    have hl : x.length ≤ 9223372036854775807 := (hwf ⟨.slice DW.tTour, x⟩ (by simp)).1
    try simp (config := { maxSteps := 10000000 }) only [go_sem]
    repeat (refine And.intro (by first | omega | (constructor <;> omega) | kernel_rfl) ?_)
    try simp (config := { maxSteps := 10000000 }) only [go_sem, d]
    all_goals repeat (refine And.intro (by first | omega | (constructor <;> omega) | kernel_rfl) ?_)
    all_goals first | kernel_rfl | omega | rfl
  · have d := decide_eq_false h
    have hr0 := szr_lo left (x.length + tTourS x) h0
    refine fn_enter tabOK mixes Tryz.func13 rfl rfl _ Tryz.ntmps13 _ Tryz.results13 (by simp) fun hwf => ?_
    have hl : x.length ≤ 9223372036854775807 := (hwf ⟨.slice DW.tTour, x⟩ (by simp)).1
    try simp (config := { maxSteps := 10000000 }) only [go_sem]
    repeat (refine And.intro (by first | omega | (constructor <;> omega) | kernel_rfl) ?_)
    try simp (config := { maxSteps := 10000000 }) only [go_sem, d]
    refine LoopG.intro _ _ _ (fun i : Nat => ⟨[(0, .sl DW.tTour x), (1, .sc (.int .i64 (szr left (x.length + tTourS (x.take i))))), (5, .sc (.int .i64 i))], []⟩) (fun i => i ≤ x.length ∧ 0 ≤ szr left (x.length + tTourS (x.take i))) (fun i => x.length - i) 0 ?_ ⟨Nat.zero_le _, by
      have e : szr left (x.length + tTourS (x.take 0)) = left - x.length := by simp [tTourS]; exact (szr_ge (by omega)).symm
      rw [e]; omega⟩ ?_
    · have e : szr left (x.length + tTourS (x.take 0)) = left - x.length := by simp [tTourS]; exact (szr_ge (by omega)).symm
      rw [e]
      refine Wk.mk [] ?_
      try simp (config := { maxSteps := 10000000 }) only [go_sem]
      try (and_intros <;> first | rfl | omega | exact ⟨_, rfl⟩)
    · rintro i ⟨hi, hle⟩
      have hr1 := szr_lo left (x.length + tTourS (x.take i)) h0
      try simp (config := { maxSteps := 10000000 }) only [go_sem]
      refine CondW_dec (fun hA => ?_) (fun hA => ?_)
      · have hlt : i < x.length := by omega
        have hts : tTourS (x.take i) + Go.Proofs.YtghckbohaghgkaaGreat.tTour x[i] = tTourS (x.take (i + 1)) := by rw [List.take_succ_eq_append_getElem hlt, tTourS_snoc]
        have c1 := szTour_fn (nth (t := DW.tTour) x i) (szr left (x.length + tTourS (x.take i))) hle (by omega)
        rw [nth_lt hlt, szr_add _ _ _ hle, Nat.add_assoc, hts] at c1
        rw [← nth_lt (t := DW.tTour) hlt] at c1
        have hr2 := szr_lo left (x.length + tTourS (x.take (i + 1))) h0
        by_cases e1 : szr left (x.length + tTourS (x.take (i + 1))) < 0
        · have d1 := decide_eq_true e1
          have hf := szr_fail e1 (b := x.length + tTourS x) (Nat.add_le_add_left (tTourS_take x (i + 1)) _)
          rw [← hf]
          try simp (config := { maxSteps := 10000000 }) only [go_sem]
          repeat (refine And.intro (by first | omega | (constructor <;> omega) | kernel_rfl) ?_)
          repeat (refine And.intro (by first | omega | (constructor <;> omega) | kernel_rfl) ?_)
          refine CallW.mk (c1) ?_
          try simp (config := { maxSteps := 10000000 }) only [go_sem]
          try simp (config := { maxSteps := 10000000 }) only [go_sem, d1]
          all_goals repeat (refine And.intro (by first | omega | (constructor <;> omega) | kernel_rfl) ?_)
          all_goals first | kernel_rfl | omega | rfl
        · have d1 := decide_eq_false e1
          try simp (config := { maxSteps := 10000000 }) only [go_sem]
          repeat (refine And.intro (by first | omega | (constructor <;> omega) | kernel_rfl) ?_)
          repeat (refine And.intro (by first | omega | (constructor <;> omega) | kernel_rfl) ?_)
          refine CallW.mk (c1) ?_
          try simp (config := { maxSteps := 10000000 }) only [go_sem]
          try simp (config := { maxSteps := 10000000 }) only [go_sem, d1]
          repeat (refine And.intro (by first | omega | (constructor <;> omega) | kernel_rfl) ?_)
          refine LoopK.mk (i + 1) ?_ ⟨by omega, by omega⟩ (by omega)
          refine Wk.mk [] ?_
          try simp (config := { maxSteps := 10000000 }) only [go_sem]
          try (and_intros <;> first | rfl | omega | exact ⟨_, rfl⟩)
      · have hi2 : i = x.length := by omega
        subst hi2
        rw [List.take_length] at hr1 ⊢
        try simp (config := { maxSteps := 10000000 }) only [go_sem]
        all_goals repeat (refine And.intro (by first | omega | (constructor <;> omega) | kernel_rfl) ?_)
        all_goals first | kernel_rfl | omega | rfl
theorem toTourS_fn (x : DTourS) (hs : x.length + tTourS x ≤ 1048576) : Fn Tryz.prog 15 [⟨.slice DW.tTour, x⟩] true [⟨.slice DW.tTour, x⟩] := by
  refine fn_enter tabOK mixes Tryz.func15 rfl rfl _ Tryz.ntmps15 _ Tryz.results15 (by simp) fun hwf => ?_
  try simp (config := { maxSteps := 10000000 }) only [go_sem]
  repeat (refine And.intro (by first | omega | (constructor <;> omega) | kernel_rfl) ?_)
  refine LoopG.intro _ _ _ (fun i : Nat => ⟨[(0, .sl DW.tTour x), (3, .row 0 0), (4, .sc (.int .i64 i))], [(0, .row 47 DW.tTour 0 true (x.take i ++ List.replicate (x.length - i) (([], (((0 : Int), (((false, []), []), ((false, []), []))), [])) : DTour)))]⟩) (fun i => i ≤ x.length) (fun i => x.length - i) 0 ?_ (Nat.zero_le _) ?_
  · refine Wk.mk [] ?_
    try simp (config := { maxSteps := 10000000 }) only [go_sem]
    try (and_intros <;> first | rfl | omega | exact ⟨_, rfl⟩)
  · rintro i hi
    have hlen : (x.take i ++ List.replicate (x.length - i) (([], (((0 : Int), (((false, []), []), ((false, []), []))), [])) : DTour)).length = x.length := by simp; omega
    try simp (config := { maxSteps := 10000000 }) only [go_sem]
    refine CondW_dec (fun hA => ?_) (fun hA => ?_)
    · have hlt : i < x.length := by omega
      have hset : (x.take i ++ List.replicate (x.length - i) (([], (((0 : Int), (((false, []), []), ((false, []), []))), [])) : DTour)).set i (nth (t := DW.tTour) x i) = x.take (i + 1) ++ List.replicate (x.length - (i + 1)) (([], (((0 : Int), (((false, []), []), ((false, []), []))), [])) : DTour) := by
        rw [List.set_append_right _ _ (by rw [List.length_take]; omega), List.length_take, show i - min i x.length = 0 by omega, show x.length - i = (x.length - (i + 1)) + 1 by omega, List.replicate_succ, List.set_cons_zero, nth_lt hlt]
        have e : x.take (i + 1) = x.take i ++ [x[i]] := List.take_succ_eq_append_getElem hlt
        rw [e, List.append_assoc]; rfl
      have ht : (List.take i x).length = i := by rw [List.length_take]; omega
      have c1 := toTour_fn (nth (t := DW.tTour) x i) (by rw [nth_lt hlt]; have := tTourS_mem hlt; omega)
      try simp (config := { maxSteps := 10000000 }) only [go_sem]
      repeat (refine And.intro (by first | omega | (constructor <;> omega) | kernel_rfl) ?_)
      repeat (refine And.intro (by first | omega | (constructor <;> omega) | kernel_rfl) ?_)
      refine CallW.mk (c1) ?_
      try simp (config := { maxSteps := 10000000 }) only [go_sem]
      repeat (refine And.intro (by first | omega | (constructor <;> omega) | kernel_rfl) ?_)
      refine LoopK.mk (i + 1) ?_ (by omega) (by omega)
      rw [← hset]
      refine Wk.mk [] ?_
      try simp (config := { maxSteps := 10000000 }) only [go_sem]
      try (and_intros <;> first | rfl | omega | exact ⟨_, rfl⟩)
    · have : x.take i ++ List.replicate (x.length - i) (([], (((0 : Int), (((false, []), []), ((false, []), []))), [])) : DTour) = x := by
        rw [List.take_of_length_le (by omega), show x.length - i = 0 by omega]; simp
      rw [this]
      try simp (config := { maxSteps := 10000000 }) only [go_sem]
      all_goals repeat (refine And.intro (by first | omega | (constructor <;> omega) | kernel_rfl) ?_)
      all_goals first | kernel_rfl | omega | rfl
theorem eqTourS_fn (x y : DTourS) : Fn Tryz.prog 17 [⟨.slice DW.tTour, x⟩, ⟨.slice DW.tTour, y⟩] false [⟨.bool, eqb x y⟩] := by
  by_cases h0 : (x.length : Int) = y.length
  · have d0 := decide_eq_true h0
    refine fn_enter tabOK mixes Tryz.func17 rfl rfl _ Tryz.ntmps17 _ Tryz.results17 (by simp) fun hwf => ?_
    have hl : x.length ≤ 9223372036854775807 := (hwf ⟨.slice DW.tTour, x⟩ (by simp)).1
    try simp (config := { maxSteps := 10000000 }) only [go_sem, d0]
    refine LoopG.intro _ _ _ (fun i : Nat => ⟨[(0, .sl DW.tTour x), (1, .sl DW.tTour y), (5, .sc (.int .i64 i))], []⟩) (fun i => ∀ j, j < i → j < x.length → nth (t := DW.tTour) x j = nth (t := DW.tTour) y j) (fun i => x.length - i) 0 ?_ (fun j h => absurd h (Nat.not_lt_zero _)) ?_
    · refine Wk.mk [] ?_
      try simp (config := { maxSteps := 10000000 }) only [go_sem]
      try (and_intros <;> first | rfl | omega | exact ⟨_, rfl⟩)
    · rintro i hi
      try simp (config := { maxSteps := 10000000 }) only [go_sem]
      refine CondW_dec (fun hA => ?_) (fun hA => ?_)
      · have c1 := eqTour_fn (nth (t := DW.tTour) x i) (nth (t := DW.tTour) y i)
        by_cases e : nth (t := DW.tTour) x i = nth (t := DW.tTour) y i
        · rw [eqb_true e] at c1
          try simp (config := { maxSteps := 10000000 }) only [go_sem]
          repeat (refine And.intro (by first | omega | (constructor <;> omega) | kernel_rfl) ?_)
          repeat (refine And.intro (by first | omega | (constructor <;> omega) | kernel_rfl) ?_)
          refine CallW.mk (c1) ?_
          try simp (config := { maxSteps := 10000000 }) only [go_sem]
          repeat (refine And.intro (by first | omega | (constructor <;> omega) | kernel_rfl) ?_)
          refine LoopK.mk (i + 1) ?_ (fun j h1 h2 => ?_) (by omega)
          · refine Wk.mk [] ?_
            try simp (config := { maxSteps := 10000000 }) only [go_sem]
            try (and_intros <;> first | rfl | omega | exact ⟨_, rfl⟩)
          · by_cases h3 : j < i
            · exact hi j h3 h2
            · rw [show j = i by omega]; exact e
        · rw [eqb_false e] at c1
          rw [eqb_false (fun h => e (by rw [h]))]
          try simp (config := { maxSteps := 10000000 }) only [go_sem]
          repeat (refine And.intro (by first | omega | (constructor <;> omega) | kernel_rfl) ?_)
          repeat (refine And.intro (by first | omega | (constructor <;> omega) | kernel_rfl) ?_)
          refine CallW.mk (c1) ?_
          try simp (config := { maxSteps := 10000000 }) only [go_sem]
          all_goals repeat (refine And.intro (by first | omega | (constructor <;> omega) | kernel_rfl) ?_)
          all_goals first | kernel_rfl | omega | rfl
      · have : x = y := by
          refine List.ext_getElem (by omega) fun j h1 h2 => ?_
          have := hi j (by omega) h1
          rwa [nth_lt h1, nth_lt h2] at this
        rw [eqb_true this]
        try simp (config := { maxSteps := 10000000 }) only [go_sem]
  · have d0 := decide_eq_false h0
    rw [eqb_false (fun h => h0 (by rw [h]))]
    refine fn_enter tabOK mixes Tryz.func17 rfl rfl _ Tryz.ntmps17 _ Tryz.results17 (by simp) fun hwf => ?_
    try simp (config := { maxSteps := 10000000 }) only [go_sem, d0]
end DW
end Go.Proofs.YtghckbohaghgkaaGreat

/-
  The arguments' types of this program, opened: vectors and tours.
-/
namespace Go.Proofs.YtghckbohaghgkaaGreat
open Go.RowKit
section
variable {H : Type} {enc : TypeId × Value → H} {w : World} {P : Program}
theorem Opens.prod3 {α β γ : Type} {t : TypeId} {A : Rp α} {B : Rp β} {C : Rp γ} {f0 f1 f2 : Field} (ht : P.underlying t = some (.struct #[f0, f1, f2])) (o0 : f0.offset = 0) (o1 : f1.offset = A.size) (o2 : f2.offset = A.size + B.size)
    (s0 : P.cellsOf f0.type = A.size) (s1 : P.cellsOf f1.type = B.size) (s2 : P.cellsOf f2.type = C.size) (s : P.cellsOf t = A.size + (B.size + C.size)) (h0 : Opens enc P w f0.type A) (h1 : Opens enc P w f1.type B) (h2 : Opens enc P w f2.type C) : Opens enc P w t (Rp.prod A (Rp.prod B C)) := fun fuel cs x h => by
  obtain ⟨xs, n, _, _, hl, hxl, hf⟩ := DataW.trod_struct ht h
  have e0 := hf 0 f0 rfl
  have e1 := hf 1 f1 rfl
  have e2 := hf 2 f2 rfl
  have hxl' : xs.length = 3 := hxl
  rw [o0, s0, List.getElem?_eq_getElem (by omega)] at e0
  rw [o1, s1, List.getElem?_eq_getElem (by omega)] at e1
  rw [o2, s2, List.getElem?_eq_getElem (by omega)] at e2
  obtain ⟨a, fa, ra⟩ := h0 _ _ _ e0
  obtain ⟨b, fb, rb⟩ := h1 _ _ _ e1
  obtain ⟨c, fc, rc⟩ := h2 _ _ _ e2
  refine ⟨(a, b, c), fa ++ (fb ++ fc), _, cs.drop A.size, fa, fb ++ fc, ?_, rfl, ra, _, _, fb, fc, ?_, rfl, rb, rc⟩
  · rw [List.drop_zero, List.take_append_drop]
  · rw [← List.drop_drop, List.take_of_length_le (show ((cs.drop A.size).drop B.size).length ≤ C.size by simp; omega), List.take_append_drop]
theorem oVec : Opens enc Tryz.prog w 123 RVec := Opens.prod Tryz.underlying123 rfl rfl (by kernel_rfl) (by kernel_rfl) (by kernel_rfl) oInt oInt
theorem oVecS : Opens enc Tryz.prog w 22 RVecS := Opens.slice Tryz.underlying22 (by kernel_rfl) oVec
theorem oTour : Opens enc Tryz.prog w 34 RTour := Opens.prod3 Tryz.underlying34 rfl rfl rfl (by kernel_rfl) (by kernel_rfl) (by kernel_rfl) (by kernel_rfl) oVecS oPlacement oStepS
theorem oTourS : Opens enc Tryz.prog w 51 (Rp.slice RTour (by decide)) := Opens.slice Tryz.underlying51 (by kernel_rfl) oTour
end
end Go.Proofs.YtghckbohaghgkaaGreat

/-
  The law FnExactAreTours returns true: the walk through it on data, by the contracts.
-/
namespace Go.Proofs.YtghckbohaghgkaaGreat.DW
open Go.RowKit

set_option maxRecDepth 100000 in
set_option maxHeartbeats 8000000 in
theorem lawAreTours_fn (x0 : DTourS) : Fn Tryz.prog 4 [⟨.slice DW.tTour, x0⟩] false [⟨.bool, true⟩] := by
  refine fn_enter tabOK mixes Tryz.func4 rfl rfl _ Tryz.ntmps4 _ Tryz.results4 (by simp) fun hwf => ?_
  try simp (config := { maxSteps := 10000000 }) only [go_sem]
  repeat (refine And.intro (by first | omega | (constructor <;> omega) | kernel_rfl) ?_)
  refine CallW.mk (szTourS_fn x0 1048576 (by omega) (by omega)) ?_
  try simp (config := { maxSteps := 10000000 }) only [go_sem]
  repeat (refine And.intro (by first | omega | (constructor <;> omega) | kernel_rfl) ?_)
  have hr0 := szr_lo 1048576 ((x0.length + Go.Proofs.YtghckbohaghgkaaGreat.tTourS x0)) (by omega)
  refine CondW_dec (fun hlt => ?_) (fun hge0 => ?_)
  · try simp (config := { maxSteps := 10000000 }) only [go_sem]
  have hge0' : 0 ≤ szr 1048576 ((x0.length + Go.Proofs.YtghckbohaghgkaaGreat.tTourS x0)) := by omega
  have hs0 := (szr_ok hge0').1
  have hle0 : (x0.length + Go.Proofs.YtghckbohaghgkaaGreat.tTourS x0) ≤ 1048576 := by omega
  clear hr0 hs0 hge0 hge0'
  try simp (config := { maxSteps := 10000000 }) only [go_sem]
  repeat (refine And.intro (by first | omega | (constructor <;> omega) | kernel_rfl) ?_)
  refine CallW.mk (toTourS_fn x0 hle0) ?_
  try simp (config := { maxSteps := 10000000 }) only [go_sem]
  repeat (refine And.intro (by first | omega | (constructor <;> omega) | kernel_rfl) ?_)
  refine CallW.mk (AreToursS_fn x0) ?_
  try simp (config := { maxSteps := 10000000 }) only [go_sem]
  repeat (refine And.intro (by first | omega | (constructor <;> omega) | kernel_rfl) ?_)
  refine CallW.mx (toTourS_fn x0 hle0) ?_
  try simp (config := { maxSteps := 10000000 }) only [go_sem]
  repeat (refine And.intro (by first | omega | (constructor <;> omega) | kernel_rfl) ?_)
  refine CallW.mx (AreToursI_fn x0) ?_
  try simp (config := { maxSteps := 10000000 }) only [go_sem]
  repeat (refine And.intro (by first | omega | (constructor <;> omega) | kernel_rfl) ?_)
  refine CallW.mk (toTourS_fn x0 hle0) ?_
  try simp (config := { maxSteps := 10000000 }) only [go_sem]
  repeat (refine And.intro (by first | omega | (constructor <;> omega) | kernel_rfl) ?_)
  refine CallW.mx (eqTourS_fn x0 x0) ?_
  try simp (config := { maxSteps := 10000000 }) only [go_sem]
  all_goals repeat (refine And.intro (by first | omega | (constructor <;> omega) | kernel_rfl) ?_)
  all_goals first | kernel_rfl | omega | rfl
end Go.Proofs.YtghckbohaghgkaaGreat.DW
namespace Go.Proofs.YtghckbohaghgkaaGreat
open Go.RowKit DW
theorem law_FnExactAreTours (a0 : Value) (x0 : DTourS) (w : World) (hx0 : Has RTourS w [a0] x0) :
    Calls Tryz.prog 4 #[a0] w (Post fun r w' => r = .bool true ∧ Below w.heap.size w w') :=
  (DW.lawAreTours_fn x0).bool (vs := [a0]) ⟨Arg.sl hx0, trivial⟩
end Go.Proofs.YtghckbohaghgkaaGreat
