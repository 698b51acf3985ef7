/-
  Texts of a proof, one behind another: Dw54, Dw56, Dw57, Dw58, Dw59, Dw60, LwT, LwT2, OpensT, LawCanAdvance.
-/
import Derived.Test.YtghckbohaghgkaaGreatKC5
set_option linter.all false
/-
  A step of a robot beside another robot.
-/
namespace Go.Proofs.YtghckbohaghgkaaGreat.DW
open Go.RowKit
theorem rch_sm {l : List DV} (hl : ∀ v ∈ l, inB 20 v = true) : ∀ i, i ≤ l.length → 0 ≤ rchI l i ∧ rchI l i ≤ 800
  | 0, _ => by unfold rchI; omega
  | i + 1, h => by
    obtain ⟨h1, h2⟩ := rch_sm hl i (by omega)
    obtain ⟨b1, b2, b3, b4⟩ := inB_b (hl _ (nth_mem (show i < l.length by omega)))
    have s1 := sqI_le b1 b2
    have s2 := sqI_le b3 b4
    unfold rchI
    omega
theorem tv_ok : ∀ {l : List DS} {p : DS}, tvGo p l = true → ∀ i, i < l.length → okPt (nth (t := tStep) l i).2 = true
  | [], _, _, i, h => by simp at h
  | x :: l, p, hg, i, h => by
    have h' : (tvStep p x && tvGo (stp p x) l) = true := hg
    rw [Bool.and_eq_true] at h'
    cases i with
    | zero =>
      have := h'.1
      unfold tvStep at this
      rw [Bool.and_eq_true, Bool.and_eq_true] at this
      exact this.2.1
    | succ i =>
      have := tv_ok h'.2 i (by simp at h; omega)
      simpa [nth] using this
theorem tour_step {t : DT} (h : tourB t = true) {i : Nat} (hi : i < t.2.2.length) : okPt (nth (t := tStep) t.2.2 i).2 = true := tv_ok (tour_parts h).2.2.2.2 i hi
/-- Does a step touch? -/
noncomputable def stpTB (a : DT) (i : Int) (b : DT) (j : Int) : Bool :=
  if (nth (t := tStep) a.2.2 i.toNat).1 = 0 then sgmB (areaD a i b j) (subP (standP a i).2 (standP b j).2) (subP (nth (t := tStep) a.2.2 i.toNat).2 (standP b j).2)
  else discB (robD b j) (subP (standP a i).2 (standP b j).2) (rchI a.1 a.1.length)
set_option maxRecDepth 100000 in
set_option maxHeartbeats 1000000 in
theorem stepTouches_fn (a : DT) (i : Int) (b : DT) (j : Int) (ha : tourB a = true) (hb : tourB b = true) (h0 : 0 ≤ i) (h1 : i < a.2.2.length) : Fn Tryz.prog 55 [⟨tTour, a⟩, ⟨.int, i⟩, ⟨tTour, b⟩, ⟨.int, j⟩] false [⟨.bool, stpTB a i b j⟩] := by
  have c1 := stand_fn a i
  have c2 := stand_fn b j
  have p1 := (tour_parts ha).1
  have p2 := (tour_parts hb).1
  have l1 := p1.five
  have l2 := p2.five
  have c3 := TurnPolygonI_fn a.1 (standP a i).1 p1.ok (by omega) (standP_hd ha i)
  have c4 := TurnPolygonI_fn b.1 (standP b j).1 p2.ok (by omega) (standP_hd hb j)
  have c6 := differenceP_fn _ _ (standP_ok ha i) (standP_ok hb j)
  by_cases hz : (nth (t := tStep) a.2.2 i.toNat).1 = 0
  · have d1 := decide_eq_true hz
    have c5 := ObstacleForI_fn _ _ (robD_sm ha i) (robD_sm hb j) (by decide)
    have c7 := differenceP_fn _ _ (tour_step ha (i := i.toNat) (by omega)) (standP_ok hb j)
    have c8 := SegmentMeetsI_fn (areaD a i b j) (subP (standP a i).2 (standP b j).2) (subP (nth (t := tStep) a.2.2 i.toNat).2 (standP b j).2) (areaD_poly ha hb i j)
    rw [show stpTB a i b j = sgmB (areaD a i b j) (subP (standP a i).2 (standP b j).2) (subP (nth (t := tStep) a.2.2 i.toNat).2 (standP b j).2) from if_pos hz]
    unfold robD at c5
    unfold areaD robD at c8 ⊢
    refine fn_enter tabOK mixes Tryz.func55 rfl rfl _ Tryz.ntmps55 _ Tryz.results55 (by simp) fun hwf => ?_
    try simp (maxSteps := 9999999) only [go_sem]
    refine CallW.mk (c1) ?_
    try simp (maxSteps := 9999999) only [go_sem]
    refine CallW.mk (c2) ?_
    try simp (maxSteps := 9999999) only [go_sem]
    repeat refine And.intro (by first|omega|(constructor<;>omega)|kernel_rfl) ?_
    refine CallW.mk (c4) ?_
    try simp (maxSteps := 9999999) only [go_sem]
    try simp (maxSteps := 9999999) only [go_sem, d1]
    refine CallW.mk (c3) ?_
    try simp (maxSteps := 9999999) only [go_sem]
    refine CallW.mk (c5) ?_
    try simp (maxSteps := 9999999) only [go_sem]
    refine CallW.mk (c6) ?_
    try simp (maxSteps := 9999999) only [go_sem]
    refine CallW.mk (c7) ?_
    try simp (maxSteps := 9999999) only [go_sem]
    refine CallW.mk (c8) ?_
    try simp (maxSteps := 9999999) only [go_sem]
    all_goals first | kernel_rfl | omega | rfl
  · have d1 := decide_eq_false hz
    have hr := rch_sm p1.ins a.1.length (Nat.le_refl _)
    have c5 := ReachSquareI_fn a.1 p1.poly
    have c7 := DiscTouchesI_fn (robD b j) (subP (standP a i).2 (standP b j).2) (rchI a.1 a.1.length) (robD_sm hb j).poly (by omega)
    rw [show stpTB a i b j = discB (robD b j) (subP (standP a i).2 (standP b j).2) (rchI a.1 a.1.length) from if_neg hz]
    unfold robD at c7 ⊢
    refine fn_enter tabOK mixes Tryz.func55 rfl rfl _ Tryz.ntmps55 _ Tryz.results55 (by simp) fun hwf => ?_
    try simp (maxSteps := 9999999) only [go_sem]
    refine CallW.mk (c1) ?_
    try simp (maxSteps := 9999999) only [go_sem]
    refine CallW.mk (c2) ?_
    try simp (maxSteps := 9999999) only [go_sem]
    repeat refine And.intro (by first|omega|(constructor<;>omega)|kernel_rfl) ?_
    refine CallW.mk (c4) ?_
    try simp (maxSteps := 9999999) only [go_sem]
    try simp (maxSteps := 9999999) only [go_sem, d1]
    refine CallW.mk (c6) ?_
    try simp (maxSteps := 9999999) only [go_sem]
    refine CallW.mk (c5) ?_
    try simp (maxSteps := 9999999) only [go_sem]
    refine CallW.mk (c7) ?_
    try simp (maxSteps := 9999999) only [go_sem]
    all_goals first | kernel_rfl | omega | rfl
noncomputable def stpTouch (a : DT) (i : Int) (b : DT) (j : Int) : Bool := !standB a i || (decide (i = (a.2.2.length : Int)) || (!standB b j || stpTB a i b j))
theorem standB_rng {t : DT} {k : Int} (h : standB t k = true) : 0 ≤ k ∧ k ≤ t.2.2.length := by
  unfold standB at h
  rw [Bool.and_eq_true] at h
  exact of_decide_eq_true h.2
set_option maxRecDepth 100000 in
set_option maxHeartbeats 1000000 in
theorem StepTouchesS_fn (a : DT) (i : Int) (b : DT) (j : Int) : Fn Tryz.prog 18 [⟨tTour, a⟩, ⟨.int, i⟩, ⟨tTour, b⟩, ⟨.int, j⟩] false [⟨.bool, stpTouch a i b j⟩] := by
  have c1 := specStandOf_fn a i
  have c2 := specStandOf_fn b j
  unfold stpTouch
  cases h1 : standB a i <;> rw [h1] at c1
  · refine fn_enter tabOK mixes Tryz.func18 rfl rfl _ Tryz.ntmps18 _ Tryz.results18 (by simp) fun hwf => ?_
    try simp (maxSteps := 9999999) only [go_sem]
    refine CallW.t (c1) ?_
    try simp (maxSteps := 9999999) only [go_sem]
    refine CallW.t (c2) ?_
    try simp (maxSteps := 9999999) only [go_sem]
    all_goals first | kernel_rfl | omega | rfl
  · cases h2 : standB b j <;> rw [h2] at c2
    · have e : (decide (i = (a.2.2.length : Int)) || (!false || stpTB a i b j)) = true := by simp
      rw [Bool.not_true, Bool.false_or, e]
      refine fn_enter tabOK mixes Tryz.func18 rfl rfl _ Tryz.ntmps18 _ Tryz.results18 (by simp) fun hwf => ?_
      try simp (maxSteps := 9999999) only [go_sem]
      refine CallW.t (c1) ?_
      try simp (maxSteps := 9999999) only [go_sem]
      refine CallW.t (c2) ?_
      try simp (maxSteps := 9999999) only [go_sem]
      all_goals first | kernel_rfl | omega | rfl
    · have hr := standB_rng h1
      have ha := standB_t h1
      have hb := standB_t h2
      have p1 := (tour_parts ha).1
      have p2 := (tour_parts hb).1
      have l1 := p1.five
      have l2 := p2.five
      by_cases hi : i = (a.2.2.length : Int)
      · have d1 := decide_eq_true (p := i ≥ (a.2.2.length : Int)) (by omega)
        rw [decide_eq_true hi]
        refine fn_enter tabOK mixes Tryz.func18 rfl rfl _ Tryz.ntmps18 _ Tryz.results18 (by simp) fun hwf => ?_
        try simp (maxSteps := 9999999) only [go_sem]
        refine CallW.t (c1) ?_
        try simp (maxSteps := 9999999) only [go_sem]
        refine CallW.t (c2) ?_
        try simp (maxSteps := 9999999) only [go_sem]
        try simp (maxSteps := 9999999) only [go_sem, d1]
        all_goals first | kernel_rfl | omega | rfl
      · have d1 := decide_eq_false (p := i ≥ (a.2.2.length : Int)) (by omega)
        rw [decide_eq_false hi, Bool.not_true, Bool.false_or, Bool.false_or, Bool.false_or]
        rw [standO_t h1] at c1
        rw [standO_t h2] at c2
        have c3 := TurnPolygonS_fn a.1 (standP a i).1 p1.ok (by omega) (standP_hd ha i)
        have c4 := TurnPolygonS_fn b.1 (standP b j).1 p2.ok (by omega) (standP_hd hb j)
        have c6 := specSubtractPoints_fn (standP a i).2 (standP b j).2
        by_cases hz : (nth (t := tStep) a.2.2 i.toNat).1 = 0
        · have d2 := decide_eq_true hz
          have c5 := ObstacleForS_fn _ _ (robD_sm ha i) (robD_sm hb j) (by decide)
          have c7 := specSubtractPoints_fn (nth (t := tStep) a.2.2 i.toNat).2 (standP b j).2
          have c8 := SegmentMeetsS_fn (areaD a i b j) (subP (standP a i).2 (standP b j).2) (subP (nth (t := tStep) a.2.2 i.toNat).2 (standP b j).2) (areaD_poly ha hb i j)
          rw [show stpTB a i b j = sgmB (areaD a i b j) (subP (standP a i).2 (standP b j).2) (subP (nth (t := tStep) a.2.2 i.toNat).2 (standP b j).2) from if_pos hz]
          unfold robD at c5
          unfold areaD robD at c8 ⊢
          refine fn_enter tabOK mixes Tryz.func18 rfl rfl _ Tryz.ntmps18 _ Tryz.results18 (by simp) fun hwf => ?_
          try simp (maxSteps := 9999999) only [go_sem]
          refine CallW.t (c1) ?_
          try simp (maxSteps := 9999999) only [go_sem]
          refine CallW.t (c2) ?_
          try simp (maxSteps := 9999999) only [go_sem]
          try simp (maxSteps := 9999999) only [go_sem, d1]
          repeat refine And.intro (by first|omega|(constructor<;>omega)|kernel_rfl) ?_
          refine CallW.mk (c4) ?_
          try simp (maxSteps := 9999999) only [go_sem]
          try simp (maxSteps := 9999999) only [go_sem, d2]
          refine CallW.mk (c3) ?_
          try simp (maxSteps := 9999999) only [go_sem]
          refine CallW.mk (c5) ?_
          try simp (maxSteps := 9999999) only [go_sem]
          refine CallW.mx (c6) ?_
          try simp (maxSteps := 9999999) only [go_sem]
          refine CallW.mx (c7) ?_
          try simp (maxSteps := 9999999) only [go_sem]
          refine CallW.mx (c8) ?_
          try simp (maxSteps := 9999999) only [go_sem]
          all_goals first | kernel_rfl | omega | rfl
        · have d2 := decide_eq_false hz
          have hr2 := rch_sm p1.ins a.1.length (Nat.le_refl _)
          have c5 := ReachSquareS_fn a.1 p1.poly
          have c7 := DiscTouchesS_fn (robD b j) (subP (standP a i).2 (standP b j).2) (rchI a.1 a.1.length) (robD_sm hb j).poly (by omega)
          rw [show stpTB a i b j = discB (robD b j) (subP (standP a i).2 (standP b j).2) (rchI a.1 a.1.length) from if_neg hz]
          unfold robD at c7 ⊢
          refine fn_enter tabOK mixes Tryz.func18 rfl rfl _ Tryz.ntmps18 _ Tryz.results18 (by simp) fun hwf => ?_
          try simp (maxSteps := 9999999) only [go_sem]
          refine CallW.t (c1) ?_
          try simp (maxSteps := 9999999) only [go_sem]
          refine CallW.t (c2) ?_
          try simp (maxSteps := 9999999) only [go_sem]
          try simp (maxSteps := 9999999) only [go_sem, d1]
          repeat refine And.intro (by first|omega|(constructor<;>omega)|kernel_rfl) ?_
          refine CallW.mk (c4) ?_
          try simp (maxSteps := 9999999) only [go_sem]
          try simp (maxSteps := 9999999) only [go_sem, d2]
          refine CallW.mx (c6) ?_
          try simp (maxSteps := 9999999) only [go_sem]
          refine CallW.mx (c5) ?_
          try simp (maxSteps := 9999999) only [go_sem]
          refine CallW.mx (c7) ?_
          try simp (maxSteps := 9999999) only [go_sem]
          all_goals first | kernel_rfl | omega | rfl
end Go.Proofs.YtghckbohaghgkaaGreat.DW

/-
  TouchTable of both sides, as contracts on data.
-/
namespace Go.Proofs.YtghckbohaghgkaaGreat.DW
open Go.RowKit
noncomputable def tabRow (a b : DT) (i : Nat) (n : Nat) : List Bool := (List.range n).map fun (j : Nat) => stpTB a i b j
noncomputable def tabTo (a b : DT) (n : Nat) : List (List Bool) := (List.range n).map fun (i : Nat) => tabRow a b i (b.2.2.length + 1)
noncomputable def tabD (a b : DT) : List (List Bool) := if (tourB a && tourB b) = true then tabTo a b a.2.2.length else []
theorem tabRow_s (a b : DT) (i n : Nat) : tabRow a b i (n + 1) = tabRow a b i n ++ [stpTB a i b n] := by
  unfold tabRow; rw [List.range_succ, List.map_append]; rfl
theorem tabTo_s (a b : DT) (n : Nat) : tabTo a b (n + 1) = tabTo a b n ++ [tabRow a b n (b.2.2.length + 1)] := by
  unfold tabTo; rw [List.range_succ, List.map_append]; rfl
theorem tabRow_len (a b : DT) (i n : Nat) : (tabRow a b i n).length = n := by simp [tabRow]
theorem tabTo_len (a b : DT) (n : Nat) : (tabTo a b n).length = n := by simp [tabTo]
theorem TouchTableI_fn (a b : DT) : Fn Tryz.prog 21 [⟨tTour, a⟩, ⟨tTour, b⟩] true [⟨.slice (.slice .bool), tabD a b⟩] := by
  have v1 := implIsValidTour_fn a
  have v2 := implIsValidTour_fn b
  cases ha : tourB a
  · rw [ha] at v1
    rw [show tabD a b = [] from if_neg (by rw [ha]; simp)]
    refine fn_enter tabOK mixes Tryz.func21 rfl rfl _ Tryz.ntmps21 _ Tryz.results21 (by simp) fun hwf => ?_
    try simp (maxSteps := 9999999) only [go_sem]
    refine CallW.mk (v1) ?_
    try simp (maxSteps := 9999999) only [go_sem]
    all_goals first | kernel_rfl | omega | rfl
  · rw [ha] at v1
    cases hb : tourB b
    · rw [hb] at v2
      rw [show tabD a b = [] from if_neg (by rw [hb, Bool.and_false]; decide)]
      refine fn_enter tabOK mixes Tryz.func21 rfl rfl _ Tryz.ntmps21 _ Tryz.results21 (by simp) fun hwf => ?_
      try simp (maxSteps := 9999999) only [go_sem]
      refine CallW.mk (v1) ?_
      try simp (maxSteps := 9999999) only [go_sem]
      refine CallW.mk (v2) ?_
      try simp (maxSteps := 9999999) only [go_sem]
      all_goals first | kernel_rfl | omega | rfl
    · rw [hb] at v2
      rw [show tabD a b = tabTo a b a.2.2.length from if_pos (by rw [ha, hb]; rfl)]
      have hla := (tour_parts ha).2.2.2.1
      have hlb := (tour_parts hb).2.2.2.1
      refine fn_enter tabOK mixes Tryz.func21 rfl rfl _ Tryz.ntmps21 _ Tryz.results21 (by simp) fun hwf => ?_
      try simp (maxSteps := 9999999) only [go_sem]
      refine CallW.mk (v1) ?_
      try simp (maxSteps := 9999999) only [go_sem]
      refine CallW.mk (v2) ?_
      try simp (maxSteps := 9999999) only [go_sem]
      refine LoopG.intro _ _ _ (fun i : Nat => ⟨[(2, .ptr 0 0), (3, .ptr 1 0), (5, .row 2 0), (20, .sc (.int .i64 a.2.2.length)), (21, .sc (.int .i64 i))], [(0, .box (cel tTour a)), (1, .box (cel tTour b)), (2, .row 92 (.slice .bool) 0 true (tabTo a b i))]⟩) (fun i => i ≤ a.2.2.length) (fun i => a.2.2.length - i) 0 ?_ (Nat.zero_le _) ?_
      · refine Wk.mk [] ?_
        try simp (maxSteps := 9999999) only [go_sem]
        try (and_intros <;> first | rfl | omega | exact ⟨_, rfl⟩)
      · rintro i hi
        try simp (maxSteps := 9999999) only [go_sem]
        refine CondW_dec (fun hA => ?_) (fun hA => ?_)
        · try simp (maxSteps := 9999999) only [go_sem]
          repeat refine And.intro (by first|omega|(constructor<;>omega)|kernel_rfl) ?_
          refine LoopG.intro _ _ _ (fun j : Nat => ⟨[(2, .ptr 0 0), (3, .ptr 1 0), (5, .row 2 0), (6, .sc (.int .i64 i)), (7, .row 3 0), (20, .sc (.int .i64 a.2.2.length)), (21, .sc (.int .i64 i)), (28, .sc (.int .i64 ((b.2.2.length : Int) + 1))), (29, .sc (.int .i64 j))], [(0, .box (cel tTour a)), (1, .box (cel tTour b)), (2, .row 92 (.slice .bool) 0 true (tabTo a b i)), (3, .row 4 .bool 0 true (tabRow a b i j))]⟩) (fun j => j ≤ b.2.2.length + 1) (fun j => b.2.2.length + 1 - j) 0 ?_ (Nat.zero_le _) ?_
          · refine Wk.mk [] ?_
            try simp (maxSteps := 9999999) only [go_sem]
            try (and_intros <;> first | rfl | omega | exact ⟨_, rfl⟩)
          · rintro j hj
            have hrl := tabRow_len a b i j
            try simp (maxSteps := 9999999) only [go_sem]
            refine CondW_dec (fun hB => ?_) (fun hB => ?_)
            · have c1 := stepTouches_fn a i b j ha hb (by omega) (by omega)
              try simp (maxSteps := 9999999) only [go_sem]
              refine CallW.mk (c1) ?_
              try simp (maxSteps := 9999999) only [go_sem]
              try simp (maxSteps := 9999999) only [go_sem, hrl]
              repeat refine And.intro (by first|omega|(constructor<;>omega)|kernel_rfl) ?_
              refine LoopK.mk (j + 1) ?_ (by omega) (by omega)
              rw [tabRow_s]
              refine Wk.mk [] ?_
              try simp (maxSteps := 9999999) only [go_sem]
              try (and_intros <;> first | rfl | omega | exact ⟨_, rfl⟩)
            · have hj2 : j = b.2.2.length + 1 := by omega
              subst hj2
              have htl := tabTo_len a b i
              try simp (maxSteps := 9999999) only [go_sem, htl]
              repeat refine And.intro (by first|omega|(constructor<;>omega)|kernel_rfl) ?_
              refine LoopK.mk (i + 1) ?_ (by omega) (by omega)
              rw [tabTo_s]
              refine Wk.mk [] ?_
              try simp (maxSteps := 9999999) only [go_sem]
              try (and_intros <;> first | rfl | omega | exact ⟨_, rfl⟩)
        · have hi2 : i = a.2.2.length := by omega
          subst hi2
          try simp (maxSteps := 9999999) only [go_sem]
          all_goals first | kernel_rfl | omega | rfl
end Go.Proofs.YtghckbohaghgkaaGreat.DW

/-
  CanAdvance of the reference, as a contract on data.
-/
namespace Go.Proofs.YtghckbohaghgkaaGreat.DW
open Go.RowKit
def stAt (l : List DT) (st : List Int) (i : Nat) : Prop := 0 ≤ ni st i ∧ ni st i ≤ (nth (t := tTour) l i).2.2.length
def stP (l : List DT) (st : List Int) : Prop := st.length = l.length ∧ ∀ i, i < st.length → stAt l st i
def frAt (l : List DT) (st : List Int) (k j : Nat) : Prop := j ≠ k → stpTB (nth (t := tTour) l k) (ni st k) (nth (t := tTour) l j) (ni st j) = false
def frP (l : List DT) (st : List Int) (k : Nat) : Prop := ni st k ≠ (nth (t := tTour) l k).2.2.length ∧ ∀ j, j < l.length → frAt l st k j
theorem stpTouch_ti {a b : DT} {i j : Int} (ha : tourB a = true) (hb : tourB b = true) (hi : 0 ≤ i ∧ i < a.2.2.length) (hj : 0 ≤ j ∧ j ≤ b.2.2.length) : stpTouch a i b j = stpTB a i b j := by
  have h1 : standB a i = true := by unfold standB; rw [ha, Bool.true_and]; exact decide_eq_true (by omega)
  have h2 : standB b j = true := by unfold standB; rw [hb, Bool.true_and]; exact decide_eq_true (by omega)
  have h3 : decide (i = (a.2.2.length : Int)) = false := decide_eq_false (by omega)
  unfold stpTouch
  rw [h1, h2, h3]; rfl
theorem l28State_fn (l : List DT) (st : List Int) : Fn Tryz.prog 62 [⟨.slice tTour, l⟩, ⟨tInts, st⟩] false [⟨.bool, bdec (stP l st)⟩] := by
  by_cases h0 : (st.length : Int) = l.length
  · have d0 := decide_eq_true h0
    refine fn_enter tabOK mixes Tryz.func62 rfl rfl _ Tryz.ntmps62 _ Tryz.results62 (by simp) fun hwf => ?_
    have hl : st.length ≤ 9223372036854775807 := (hwf ⟨tInts, st⟩ (by simp)).1
    try simp (maxSteps := 9999999) only [go_sem, d0]
    refine LoopG.intro _ _ _ (fun i : Nat => ⟨[(0, .sl tTour l), (12, .sl .int st), (13, .sc (.int .i64 st.length)), (14, .sc (.int .i64 i))], []⟩) (fun i => i ≤ st.length ∧ ∀ j, j < i → stAt l st j) (fun i => st.length - i) 0 ?_ ⟨Nat.zero_le _, fun j h => absurd h (Nat.not_lt_zero _)⟩ ?_
    · refine Wk.mk [] ?_
      try simp (maxSteps := 9999999) only [go_sem]
      try (and_intros <;> first | rfl | omega | exact ⟨_, rfl⟩)
    · rintro i ⟨hi, hall⟩
      try simp (maxSteps := 9999999) only [go_sem]
      refine CondW_dec (fun hA => ?_) (fun hA => ?_)
      · have hlt : i < st.length := by omega
        have c1 := l01In_fn (ni st i) 0 (nth (t := tTour) l i).2.2.length
        by_cases hv : 0 ≤ ni st i ∧ ni st i ≤ (nth (t := tTour) l i).2.2.length
        · rw [decide_eq_true hv] at c1
          try simp (maxSteps := 9999999) only [go_sem]
          repeat refine And.intro (by first|omega|(constructor<;>omega)|kernel_rfl) ?_
          refine CallW.mk (c1) ?_
          try simp (maxSteps := 9999999) only [go_sem]
          repeat refine And.intro (by first|omega|(constructor<;>omega)|kernel_rfl) ?_
          refine LoopK.mk (i + 1) ?_ ⟨by omega, fun j hj => ?_⟩ (by omega)
          · refine Wk.mk [] ?_
            try simp (maxSteps := 9999999) only [go_sem]
            try (and_intros <;> first | rfl | omega | exact ⟨_, rfl⟩)
          · by_cases h : j < i
            · exact hall j h
            · rw [show j = i by omega]; exact hv
        · rw [decide_eq_false hv] at c1
          rw [bdec_f fun h => hv (h.2 i hlt)]
          try simp (maxSteps := 9999999) only [go_sem]
          repeat refine And.intro (by first|omega|(constructor<;>omega)|kernel_rfl) ?_
          refine CallW.mk (c1) ?_
          try simp (maxSteps := 9999999) only [go_sem]
          all_goals first | kernel_rfl | omega | rfl
      · rw [bdec_t ⟨by omega, fun i hi => hall i (by omega)⟩]
        try simp (maxSteps := 9999999) only [go_sem]
        all_goals first | kernel_rfl | omega | rfl
  · have d0 := decide_eq_false h0
    rw [bdec_f fun h => h0 (by rw [h.1])]
    refine fn_enter tabOK mixes Tryz.func62 rfl rfl _ Tryz.ntmps62 _ Tryz.results62 (by simp) fun hwf => ?_
    try simp (maxSteps := 9999999) only [go_sem, d0]
    all_goals first | kernel_rfl | omega | rfl
theorem l28Free_fn (l : List DT) (st : List Int) (k : Nat) (har : arP l) (hst : stP l st) (hk : k < l.length) : Fn Tryz.prog 63 [⟨.slice tTour, l⟩, ⟨tInts, st⟩, ⟨.int, k⟩] false [⟨.bool, bdec (frP l st k)⟩] := by
  have hkv := hst.2 k (by rw [hst.1]; exact hk)
  have hlen := hst.1
  by_cases h0 : ni st k = (nth (t := tTour) l k).2.2.length
  · have d0 := decide_eq_true h0
    rw [bdec_f fun h => h.1 h0]
    refine fn_enter tabOK mixes Tryz.func63 rfl rfl _ Tryz.ntmps63 _ Tryz.results63 (by simp) fun hwf => ?_
    try simp (maxSteps := 9999999) only [go_sem]
    repeat refine And.intro (by first|omega|(constructor<;>omega)|kernel_rfl) ?_
    try simp (maxSteps := 9999999) only [go_sem, d0]
    all_goals first | kernel_rfl | omega | rfl
  · have d0 := decide_eq_false h0
    refine fn_enter tabOK mixes Tryz.func63 rfl rfl _ Tryz.ntmps63 _ Tryz.results63 (by simp) fun hwf => ?_
    have hl : l.length ≤ 9223372036854775807 := (hwf ⟨.slice tTour, l⟩ (by simp)).1
    try simp (maxSteps := 9999999) only [go_sem]
    repeat refine And.intro (by first|omega|(constructor<;>omega)|kernel_rfl) ?_
    try simp (maxSteps := 9999999) only [go_sem, d0]
    refine LoopG.intro _ _ _ (fun j : Nat => ⟨[(0, .sl tTour l), (1, .sl .int st), (2, .sc (.int .i64 k)), (20, .sl tTour l), (21, .sc (.int .i64 l.length)), (22, .sc (.int .i64 j))], []⟩) (fun j => j ≤ l.length ∧ ∀ i, i < j → frAt l st k i) (fun j => l.length - j) 0 ?_ ⟨Nat.zero_le _, fun j h => absurd h (Nat.not_lt_zero _)⟩ ?_
    · refine Wk.mk [] ?_
      try simp (maxSteps := 9999999) only [go_sem]
      try (and_intros <;> first | rfl | omega | exact ⟨_, rfl⟩)
    · rintro j ⟨hj, hall⟩
      try simp (maxSteps := 9999999) only [go_sem]
      refine CondW_dec (fun hA => ?_) (fun hA => ?_)
      · have hlt : j < l.length := by omega
        by_cases hjk : (j : Int) = k
        · have d1 := decide_eq_true hjk
          try simp (maxSteps := 9999999) only [go_sem]
          repeat refine And.intro (by first|omega|(constructor<;>omega)|kernel_rfl) ?_
          try simp (maxSteps := 9999999) only [go_sem, d1]
          repeat refine And.intro (by first|omega|(constructor<;>omega)|kernel_rfl) ?_
          refine LoopK.mk (j + 1) ?_ ⟨by omega, fun i hi => ?_⟩ (by omega)
          · refine Wk.mk [] ?_
            try simp (maxSteps := 9999999) only [go_sem]
            try (and_intros <;> first | rfl | omega | exact ⟨_, rfl⟩)
          · by_cases h : i < j
            · exact hall i h
            · intro hne; omega
        · have d1 := decide_eq_false hjk
          have hjv := hst.2 j (by rw [hst.1]; exact hlt)
          have c1 := StepTouchesS_fn (nth (t := tTour) l k) (ni st k) (nth (t := tTour) l j) (ni st j)
          rw [stpTouch_ti (har k hk).1 (har j hlt).1 ⟨hkv.1, by have := hkv.2; omega⟩ hjv] at c1
          cases hs : stpTB (nth (t := tTour) l k) (ni st k) (nth (t := tTour) l j) (ni st j) <;> rw [hs] at c1
          · try simp (maxSteps := 9999999) only [go_sem]
            repeat refine And.intro (by first|omega|(constructor<;>omega)|kernel_rfl) ?_
            try simp (maxSteps := 9999999) only [go_sem, d1]
            repeat refine And.intro (by first|omega|(constructor<;>omega)|kernel_rfl) ?_
            refine CallW.mk (c1) ?_
            try simp (maxSteps := 9999999) only [go_sem]
            repeat refine And.intro (by first|omega|(constructor<;>omega)|kernel_rfl) ?_
            refine LoopK.mk (j + 1) ?_ ⟨by omega, fun i hi => ?_⟩ (by omega)
            · refine Wk.mk [] ?_
              try simp (maxSteps := 9999999) only [go_sem]
              try (and_intros <;> first | rfl | omega | exact ⟨_, rfl⟩)
            · by_cases h : i < j
              · exact hall i h
              · rw [show i = j by omega]; exact fun _ => hs
          · rw [bdec_f fun h => by have := h.2 j hlt (by omega); rw [hs] at this; cases this]
            try simp (maxSteps := 9999999) only [go_sem]
            repeat refine And.intro (by first|omega|(constructor<;>omega)|kernel_rfl) ?_
            try simp (maxSteps := 9999999) only [go_sem, d1]
            repeat refine And.intro (by first|omega|(constructor<;>omega)|kernel_rfl) ?_
            refine CallW.mk (c1) ?_
            try simp (maxSteps := 9999999) only [go_sem]
            all_goals first | kernel_rfl | omega | rfl
      · rw [bdec_t ⟨h0, fun j hj => hall j (by omega)⟩]
        try simp (maxSteps := 9999999) only [go_sem]
        all_goals first | kernel_rfl | omega | rfl
def caP (l : List DT) (st : List Int) (k : Int) : Prop := arB l = true ∧ stP l st ∧ (0 ≤ k ∧ k ≤ (l.length : Int) - 1) ∧ frP l st k.toNat
theorem arB_p {l : List DT} (h : arB l = true) : (1 ≤ l.length ∧ l.length ≤ 3) ∧ arP l := by
  unfold arB at h
  rw [Bool.and_eq_true] at h
  have h1 := of_decide_eq_true h.1
  refine ⟨by omega, ?_⟩
  by_cases hp : arP l
  · exact hp
  · rw [bdec_f hp] at h; exact absurd h.2 (by decide)
theorem CanAdvanceS_fn (l : List DT) (st : List Int) (k : Int) : Fn Tryz.prog 26 [⟨.slice tTour, l⟩, ⟨tInts, st⟩, ⟨.int, k⟩] false [⟨.bool, bdec (caP l st k)⟩] := by
  have c0 := AreToursS_fn l
  cases ha : arB l <;> rw [ha] at c0
  · rw [bdec_f fun h => by have := h.1; rw [ha] at this; cases this]
    refine fn_enter tabOK mixes Tryz.func26 rfl rfl _ Tryz.ntmps26 _ Tryz.results26 (by simp) fun hwf => ?_
    try simp (maxSteps := 9999999) only [go_sem]
    refine CallW.mk (c0) ?_
    try simp (maxSteps := 9999999) only [go_sem]
    all_goals first | kernel_rfl | omega | rfl
  · have har := arB_p ha
    have c1 := l28State_fn l st
    by_cases hst : stP l st
    · rw [bdec_t hst] at c1
      have c2 := l01In_fn k 0 ((l.length : Int) - 1)
      by_cases hk : 0 ≤ k ∧ k ≤ (l.length : Int) - 1
      · rw [decide_eq_true hk] at c2
        have c3 := l28Free_fn l st k.toNat har.2 hst (by omega)
        rw [show ((k.toNat : Nat) : Int) = k by omega] at c3
        rw [show bdec (caP l st k) = bdec (frP l st k.toNat) by
          by_cases hf : frP l st k.toNat
          · rw [bdec_t hf]; exact bdec_t ⟨ha, hst, hk, hf⟩
          · rw [bdec_f hf]; exact bdec_f fun h => hf h.2.2.2]
        refine fn_enter tabOK mixes Tryz.func26 rfl rfl _ Tryz.ntmps26 _ Tryz.results26 (by simp) fun hwf => ?_
        try simp (maxSteps := 9999999) only [go_sem]
        refine CallW.mk (c0) ?_
        try simp (maxSteps := 9999999) only [go_sem]
        refine CallW.mk (c1) ?_
        try simp (maxSteps := 9999999) only [go_sem]
        repeat refine And.intro (by first|omega|(constructor<;>omega)|kernel_rfl) ?_
        refine CallW.mk (c2) ?_
        try simp (maxSteps := 9999999) only [go_sem]
        refine CallW.mk (c3) ?_
        try simp (maxSteps := 9999999) only [go_sem]
        all_goals first | kernel_rfl | omega | rfl
      · rw [decide_eq_false hk] at c2
        rw [bdec_f fun h => hk h.2.2.1]
        refine fn_enter tabOK mixes Tryz.func26 rfl rfl _ Tryz.ntmps26 _ Tryz.results26 (by simp) fun hwf => ?_
        try simp (maxSteps := 9999999) only [go_sem]
        refine CallW.mk (c0) ?_
        try simp (maxSteps := 9999999) only [go_sem]
        refine CallW.mk (c1) ?_
        try simp (maxSteps := 9999999) only [go_sem]
        repeat refine And.intro (by first|omega|(constructor<;>omega)|kernel_rfl) ?_
        refine CallW.mk (c2) ?_
        try simp (maxSteps := 9999999) only [go_sem]
        all_goals first | kernel_rfl | omega | rfl
    · rw [bdec_f hst] at c1
      rw [bdec_f fun h => hst h.2.1]
      refine fn_enter tabOK mixes Tryz.func26 rfl rfl _ Tryz.ntmps26 _ Tryz.results26 (by simp) fun hwf => ?_
      try simp (maxSteps := 9999999) only [go_sem]
      refine CallW.mk (c0) ?_
      try simp (maxSteps := 9999999) only [go_sem]
      refine CallW.mk (c1) ?_
      try simp (maxSteps := 9999999) only [go_sem]
      all_goals first | kernel_rfl | omega | rfl
end Go.Proofs.YtghckbohaghgkaaGreat.DW

/-
  newPlanner, as contracts on data (printed by gen16.py).
-/
namespace Go.Proofs.YtghckbohaghgkaaGreat.DW
open Go.RowKit

set_option maxRecDepth 100000 in
set_option maxHeartbeats 4000000 in
noncomputable def plD1 (l : List DT) : tPlanner.den := (l, (((([], [], []), ([], [], []), ([], [], []))), some 0))
theorem newPlanner_fn1 (l : List DT) (hl : l.length = 1) : Fn Tryz.prog 64 [⟨.slice tTour, l⟩] false [⟨.ext .ref tPlanner, some (plD1 l)⟩] := by
  unfold plD1
  refine fnP_enter tabOK mixes Tryz.func64 rfl rfl _ Tryz.ntmps64 _ Tryz.results64 (by simp) fun hwf => ?_
  try simp (maxSteps := 9999999) only [go_sem]
  refine LoopG.intro _ _ _ (fun y : Nat => match y with | 0 => ⟨[(0, .sl tTour l), (3, .ptr 0 0), (12, .sl tTour l), (13, .sc (.int .i64 l.length)), (14, .sc (.int .i64 0))], [(0, .box [.sl tTour l, .sl (.slice .bool) ([]), .sl (.slice .bool) ([]), .sl (.slice .bool) ([]), .sl (.slice .bool) ([]), .sl (.slice .bool) ([]), .sl (.slice .bool) ([]), .sl (.slice .bool) ([]), .sl (.slice .bool) ([]), .sl (.slice .bool) ([]), .ex .opq .int (some 0)])]⟩ | _ => ⟨[(0, .sl tTour l), (3, .ptr 0 0), (12, .sl tTour l), (13, .sc (.int .i64 l.length)), (14, .sc (.int .i64 1))], [(0, .box [.sl tTour l, .sl (.slice .bool) ([]), .sl (.slice .bool) ([]), .sl (.slice .bool) ([]), .sl (.slice .bool) ([]), .sl (.slice .bool) ([]), .sl (.slice .bool) ([]), .sl (.slice .bool) ([]), .sl (.slice .bool) ([]), .sl (.slice .bool) ([]), .ex .opq .int (some 0)])]⟩) (fun y => y ≤ 1) (fun y => 1 - y) 0 ?_ (Nat.zero_le _) ?_
  · refine Wk.mk [] ?_
    try simp (maxSteps := 9999999) only [go_sem]
  · rintro y hy
    obtain rfl | rfl : y = 0 ∨ y = 1 := by omega
    · try simp (maxSteps := 9999999) only [go_sem]
      refine CondW_dec (fun hA => ?_) (fun hA => absurd (by rw [hl]; decide) hA)
      try simp (maxSteps := 9999999) only [go_sem]
      repeat refine And.intro (by first|omega|(constructor<;>omega)|kernel_rfl) ?_
      refine LoopG.intro _ _ _ (fun z : Nat => match z with | 0 => ⟨[(0, .sl tTour l), (3, .ptr 0 0), (4, .sc (.int .i64 0)), (5, .ptr 1 0), (12, .sl tTour l), (13, .sc (.int .i64 l.length)), (14, .sc (.int .i64 0)), (19, .sl tTour l), (20, .sc (.int .i64 l.length)), (21, .sc (.int .i64 0))], [(0, .box [.sl tTour l, .sl (.slice .bool) ([]), .sl (.slice .bool) ([]), .sl (.slice .bool) ([]), .sl (.slice .bool) ([]), .sl (.slice .bool) ([]), .sl (.slice .bool) ([]), .sl (.slice .bool) ([]), .sl (.slice .bool) ([]), .sl (.slice .bool) ([]), .ex .opq .int (some 0)]), (1, .box (cel tTour (nth (t := tTour) l 0)))]⟩ | _ => ⟨[(0, .sl tTour l), (3, .ptr 0 0), (4, .sc (.int .i64 0)), (5, .ptr 1 0), (12, .sl tTour l), (13, .sc (.int .i64 l.length)), (14, .sc (.int .i64 0)), (19, .sl tTour l), (20, .sc (.int .i64 l.length)), (21, .sc (.int .i64 1))], [(0, .box [.sl tTour l, .sl (.slice .bool) ([]), .sl (.slice .bool) ([]), .sl (.slice .bool) ([]), .sl (.slice .bool) ([]), .sl (.slice .bool) ([]), .sl (.slice .bool) ([]), .sl (.slice .bool) ([]), .sl (.slice .bool) ([]), .sl (.slice .bool) ([]), .ex .opq .int (some 0)]), (1, .box (cel tTour (nth (t := tTour) l 0)))]⟩) (fun z => z ≤ 1) (fun z => 1 - z) 0 ?_ (Nat.zero_le _) ?_
      · refine Wk.mk [] ?_
        try simp (maxSteps := 9999999) only [go_sem]
      · rintro z hz
        obtain rfl | rfl : z = 0 ∨ z = 1 := by omega
        · try simp (maxSteps := 9999999) only [go_sem]
          refine CondW_dec (fun hB => ?_) (fun hB => absurd (by rw [hl]; decide) hB)
          try simp (maxSteps := 9999999) only [go_sem]
          repeat refine And.intro (by first|omega|(constructor<;>omega)|kernel_rfl) ?_
          refine LoopK.mk 1 ?_ (by omega) (by omega)
          refine Wk.mk [] ?_
          try simp (maxSteps := 9999999) only [go_sem]
          try (and_intros <;> first | rfl | omega | exact ⟨_, rfl⟩)
        · try simp (maxSteps := 9999999) only [go_sem]
          refine CondW_dec (fun hB => by rw [hl] at hB; exact absurd hB (by decide)) (fun hB => ?_)
          try simp (maxSteps := 9999999) only [go_sem]
          repeat refine And.intro (by first|omega|(constructor<;>omega)|kernel_rfl) ?_
          refine LoopK.mk 1 ?_ (by omega) (by omega)
          refine Wk.mk [] ?_
          try simp (maxSteps := 9999999) only [go_sem]
          try (and_intros <;> first | rfl | omega | exact ⟨_, rfl⟩)
    · try simp (maxSteps := 9999999) only [go_sem]
      refine CondW_dec (fun hA => by rw [hl] at hA; exact absurd hA (by decide)) (fun hA => ?_)
      try simp (maxSteps := 9999999) only [go_sem]
      all_goals first | kernel_rfl | omega | rfl
set_option maxRecDepth 100000 in
set_option maxHeartbeats 4000000 in
noncomputable def plD2 (l : List DT) : tPlanner.den := (l, (((([], tabD (nth (t := tTour) l 0) (nth (t := tTour) l 1), []), (tabD (nth (t := tTour) l 1) (nth (t := tTour) l 0), [], []), ([], [], []))), some 0))
theorem newPlanner_fn2 (l : List DT) (hl : l.length = 2) : Fn Tryz.prog 64 [⟨.slice tTour, l⟩] false [⟨.ext .ref tPlanner, some (plD2 l)⟩] := by
  unfold plD2
  refine fnP_enter tabOK mixes Tryz.func64 rfl rfl _ Tryz.ntmps64 _ Tryz.results64 (by simp) fun hwf => ?_
  try simp (maxSteps := 9999999) only [go_sem]
  refine LoopG.intro _ _ _ (fun y : Nat => match y with | 0 => ⟨[(0, .sl tTour l), (3, .ptr 0 0), (12, .sl tTour l), (13, .sc (.int .i64 l.length)), (14, .sc (.int .i64 0))], [(0, .box [.sl tTour l, .sl (.slice .bool) ([]), .sl (.slice .bool) ([]), .sl (.slice .bool) ([]), .sl (.slice .bool) ([]), .sl (.slice .bool) ([]), .sl (.slice .bool) ([]), .sl (.slice .bool) ([]), .sl (.slice .bool) ([]), .sl (.slice .bool) ([]), .ex .opq .int (some 0)])]⟩ | 1 => ⟨[(0, .sl tTour l), (3, .ptr 0 0), (12, .sl tTour l), (13, .sc (.int .i64 l.length)), (14, .sc (.int .i64 1))], [(0, .box [.sl tTour l, .sl (.slice .bool) ([]), .sl (.slice .bool) (tabD (nth (t := tTour) l 0) (nth (t := tTour) l 1)), .sl (.slice .bool) ([]), .sl (.slice .bool) ([]), .sl (.slice .bool) ([]), .sl (.slice .bool) ([]), .sl (.slice .bool) ([]), .sl (.slice .bool) ([]), .sl (.slice .bool) ([]), .ex .opq .int (some 0)])]⟩ | _ => ⟨[(0, .sl tTour l), (3, .ptr 0 0), (12, .sl tTour l), (13, .sc (.int .i64 l.length)), (14, .sc (.int .i64 2))], [(0, .box [.sl tTour l, .sl (.slice .bool) ([]), .sl (.slice .bool) (tabD (nth (t := tTour) l 0) (nth (t := tTour) l 1)), .sl (.slice .bool) ([]), .sl (.slice .bool) (tabD (nth (t := tTour) l 1) (nth (t := tTour) l 0)), .sl (.slice .bool) ([]), .sl (.slice .bool) ([]), .sl (.slice .bool) ([]), .sl (.slice .bool) ([]), .sl (.slice .bool) ([]), .ex .opq .int (some 0)])]⟩) (fun y => y ≤ 2) (fun y => 2 - y) 0 ?_ (Nat.zero_le _) ?_
  · refine Wk.mk [] ?_
    try simp (maxSteps := 9999999) only [go_sem]
  · rintro y hy
    obtain rfl | rfl | rfl : y = 0 ∨ y = 1 ∨ y = 2 := by omega
    · try simp (maxSteps := 9999999) only [go_sem]
      refine CondW_dec (fun hA => ?_) (fun hA => absurd (by rw [hl]; decide) hA)
      try simp (maxSteps := 9999999) only [go_sem]
      repeat refine And.intro (by first|omega|(constructor<;>omega)|kernel_rfl) ?_
      refine LoopG.intro _ _ _ (fun z : Nat => match z with | 0 => ⟨[(0, .sl tTour l), (3, .ptr 0 0), (4, .sc (.int .i64 0)), (5, .ptr 1 0), (12, .sl tTour l), (13, .sc (.int .i64 l.length)), (14, .sc (.int .i64 0)), (19, .sl tTour l), (20, .sc (.int .i64 l.length)), (21, .sc (.int .i64 0))], [(0, .box [.sl tTour l, .sl (.slice .bool) ([]), .sl (.slice .bool) ([]), .sl (.slice .bool) ([]), .sl (.slice .bool) ([]), .sl (.slice .bool) ([]), .sl (.slice .bool) ([]), .sl (.slice .bool) ([]), .sl (.slice .bool) ([]), .sl (.slice .bool) ([]), .ex .opq .int (some 0)]), (1, .box (cel tTour (nth (t := tTour) l 0)))]⟩ | 1 => ⟨[(0, .sl tTour l), (3, .ptr 0 0), (4, .sc (.int .i64 0)), (5, .ptr 1 0), (12, .sl tTour l), (13, .sc (.int .i64 l.length)), (14, .sc (.int .i64 0)), (19, .sl tTour l), (20, .sc (.int .i64 l.length)), (21, .sc (.int .i64 1))], [(0, .box [.sl tTour l, .sl (.slice .bool) ([]), .sl (.slice .bool) ([]), .sl (.slice .bool) ([]), .sl (.slice .bool) ([]), .sl (.slice .bool) ([]), .sl (.slice .bool) ([]), .sl (.slice .bool) ([]), .sl (.slice .bool) ([]), .sl (.slice .bool) ([]), .ex .opq .int (some 0)]), (1, .box (cel tTour (nth (t := tTour) l 0)))]⟩ | _ => ⟨[(0, .sl tTour l), (3, .ptr 0 0), (4, .sc (.int .i64 0)), (5, .ptr 1 0), (12, .sl tTour l), (13, .sc (.int .i64 l.length)), (14, .sc (.int .i64 0)), (19, .sl tTour l), (20, .sc (.int .i64 l.length)), (21, .sc (.int .i64 2))], [(0, .box [.sl tTour l, .sl (.slice .bool) ([]), .sl (.slice .bool) (tabD (nth (t := tTour) l 0) (nth (t := tTour) l 1)), .sl (.slice .bool) ([]), .sl (.slice .bool) ([]), .sl (.slice .bool) ([]), .sl (.slice .bool) ([]), .sl (.slice .bool) ([]), .sl (.slice .bool) ([]), .sl (.slice .bool) ([]), .ex .opq .int (some 0)]), (1, .box (cel tTour (nth (t := tTour) l 0)))]⟩) (fun z => z ≤ 2) (fun z => 2 - z) 0 ?_ (Nat.zero_le _) ?_
      · refine Wk.mk [] ?_
        try simp (maxSteps := 9999999) only [go_sem]
      · rintro z hz
        obtain rfl | rfl | rfl : z = 0 ∨ z = 1 ∨ z = 2 := by omega
        · try simp (maxSteps := 9999999) only [go_sem]
          refine CondW_dec (fun hB => ?_) (fun hB => absurd (by rw [hl]; decide) hB)
          try simp (maxSteps := 9999999) only [go_sem]
          repeat refine And.intro (by first|omega|(constructor<;>omega)|kernel_rfl) ?_
          refine LoopK.mk 1 ?_ (by omega) (by omega)
          refine Wk.mk [] ?_
          try simp (maxSteps := 9999999) only [go_sem]
          try (and_intros <;> first | rfl | omega | exact ⟨_, rfl⟩)
        · try simp (maxSteps := 9999999) only [go_sem]
          refine CondW_dec (fun hB => ?_) (fun hB => absurd (by rw [hl]; decide) hB)
          have c1 := (TouchTableI_fn (nth (t := tTour) l 0) (nth (t := tTour) l 1)).sh
          try simp (maxSteps := 9999999) only [go_sem]
          repeat refine And.intro (by first|omega|(constructor<;>omega)|kernel_rfl) ?_
          refine CallW.mk (c1) ?_
          try simp (maxSteps := 9999999) only [go_sem]
          repeat refine And.intro (by first|omega|(constructor<;>omega)|kernel_rfl) ?_
          refine LoopK.mk 2 ?_ (by omega) (by omega)
          refine Wk.mk [] ?_
          try simp (maxSteps := 9999999) only [go_sem]
          try (and_intros <;> first | rfl | omega | exact ⟨_, rfl⟩)
        · try simp (maxSteps := 9999999) only [go_sem]
          refine CondW_dec (fun hB => by rw [hl] at hB; exact absurd hB (by decide)) (fun hB => ?_)
          try simp (maxSteps := 9999999) only [go_sem]
          repeat refine And.intro (by first|omega|(constructor<;>omega)|kernel_rfl) ?_
          refine LoopK.mk 1 ?_ (by omega) (by omega)
          refine Wk.mk [] ?_
          try simp (maxSteps := 9999999) only [go_sem]
          try (and_intros <;> first | rfl | omega | exact ⟨_, rfl⟩)
    · try simp (maxSteps := 9999999) only [go_sem]
      refine CondW_dec (fun hA => ?_) (fun hA => absurd (by rw [hl]; decide) hA)
      try simp (maxSteps := 9999999) only [go_sem]
      repeat refine And.intro (by first|omega|(constructor<;>omega)|kernel_rfl) ?_
      refine LoopG.intro _ _ _ (fun z : Nat => match z with | 0 => ⟨[(0, .sl tTour l), (3, .ptr 0 0), (4, .sc (.int .i64 1)), (5, .ptr 1 0), (12, .sl tTour l), (13, .sc (.int .i64 l.length)), (14, .sc (.int .i64 1)), (19, .sl tTour l), (20, .sc (.int .i64 l.length)), (21, .sc (.int .i64 0))], [(0, .box [.sl tTour l, .sl (.slice .bool) ([]), .sl (.slice .bool) (tabD (nth (t := tTour) l 0) (nth (t := tTour) l 1)), .sl (.slice .bool) ([]), .sl (.slice .bool) ([]), .sl (.slice .bool) ([]), .sl (.slice .bool) ([]), .sl (.slice .bool) ([]), .sl (.slice .bool) ([]), .sl (.slice .bool) ([]), .ex .opq .int (some 0)]), (1, .box (cel tTour (nth (t := tTour) l 1)))]⟩ | 1 => ⟨[(0, .sl tTour l), (3, .ptr 0 0), (4, .sc (.int .i64 1)), (5, .ptr 1 0), (12, .sl tTour l), (13, .sc (.int .i64 l.length)), (14, .sc (.int .i64 1)), (19, .sl tTour l), (20, .sc (.int .i64 l.length)), (21, .sc (.int .i64 1))], [(0, .box [.sl tTour l, .sl (.slice .bool) ([]), .sl (.slice .bool) (tabD (nth (t := tTour) l 0) (nth (t := tTour) l 1)), .sl (.slice .bool) ([]), .sl (.slice .bool) (tabD (nth (t := tTour) l 1) (nth (t := tTour) l 0)), .sl (.slice .bool) ([]), .sl (.slice .bool) ([]), .sl (.slice .bool) ([]), .sl (.slice .bool) ([]), .sl (.slice .bool) ([]), .ex .opq .int (some 0)]), (1, .box (cel tTour (nth (t := tTour) l 1)))]⟩ | _ => ⟨[(0, .sl tTour l), (3, .ptr 0 0), (4, .sc (.int .i64 1)), (5, .ptr 1 0), (12, .sl tTour l), (13, .sc (.int .i64 l.length)), (14, .sc (.int .i64 1)), (19, .sl tTour l), (20, .sc (.int .i64 l.length)), (21, .sc (.int .i64 2))], [(0, .box [.sl tTour l, .sl (.slice .bool) ([]), .sl (.slice .bool) (tabD (nth (t := tTour) l 0) (nth (t := tTour) l 1)), .sl (.slice .bool) ([]), .sl (.slice .bool) (tabD (nth (t := tTour) l 1) (nth (t := tTour) l 0)), .sl (.slice .bool) ([]), .sl (.slice .bool) ([]), .sl (.slice .bool) ([]), .sl (.slice .bool) ([]), .sl (.slice .bool) ([]), .ex .opq .int (some 0)]), (1, .box (cel tTour (nth (t := tTour) l 1)))]⟩) (fun z => z ≤ 2) (fun z => 2 - z) 0 ?_ (Nat.zero_le _) ?_
      · refine Wk.mk [] ?_
        try simp (maxSteps := 9999999) only [go_sem]
      · rintro z hz
        obtain rfl | rfl | rfl : z = 0 ∨ z = 1 ∨ z = 2 := by omega
        · try simp (maxSteps := 9999999) only [go_sem]
          refine CondW_dec (fun hB => ?_) (fun hB => absurd (by rw [hl]; decide) hB)
          have c1 := (TouchTableI_fn (nth (t := tTour) l 1) (nth (t := tTour) l 0)).sh
          try simp (maxSteps := 9999999) only [go_sem]
          repeat refine And.intro (by first|omega|(constructor<;>omega)|kernel_rfl) ?_
          refine CallW.mk (c1) ?_
          try simp (maxSteps := 9999999) only [go_sem]
          repeat refine And.intro (by first|omega|(constructor<;>omega)|kernel_rfl) ?_
          refine LoopK.mk 1 ?_ (by omega) (by omega)
          refine Wk.mk [] ?_
          try simp (maxSteps := 9999999) only [go_sem]
          try (and_intros <;> first | rfl | omega | exact ⟨_, rfl⟩)
        · try simp (maxSteps := 9999999) only [go_sem]
          refine CondW_dec (fun hB => ?_) (fun hB => absurd (by rw [hl]; decide) hB)
          try simp (maxSteps := 9999999) only [go_sem]
          repeat refine And.intro (by first|omega|(constructor<;>omega)|kernel_rfl) ?_
          refine LoopK.mk 2 ?_ (by omega) (by omega)
          refine Wk.mk [] ?_
          try simp (maxSteps := 9999999) only [go_sem]
          try (and_intros <;> first | rfl | omega | exact ⟨_, rfl⟩)
        · try simp (maxSteps := 9999999) only [go_sem]
          refine CondW_dec (fun hB => by rw [hl] at hB; exact absurd hB (by decide)) (fun hB => ?_)
          try simp (maxSteps := 9999999) only [go_sem]
          repeat refine And.intro (by first|omega|(constructor<;>omega)|kernel_rfl) ?_
          refine LoopK.mk 2 ?_ (by omega) (by omega)
          refine Wk.mk [] ?_
          try simp (maxSteps := 9999999) only [go_sem]
          try (and_intros <;> first | rfl | omega | exact ⟨_, rfl⟩)
    · try simp (maxSteps := 9999999) only [go_sem]
      refine CondW_dec (fun hA => by rw [hl] at hA; exact absurd hA (by decide)) (fun hA => ?_)
      try simp (maxSteps := 9999999) only [go_sem]
      all_goals first | kernel_rfl | omega | rfl
set_option maxRecDepth 100000 in
set_option maxHeartbeats 4000000 in
noncomputable def plD3 (l : List DT) : tPlanner.den := (l, (((([], tabD (nth (t := tTour) l 0) (nth (t := tTour) l 1), tabD (nth (t := tTour) l 0) (nth (t := tTour) l 2)), (tabD (nth (t := tTour) l 1) (nth (t := tTour) l 0), [], tabD (nth (t := tTour) l 1) (nth (t := tTour) l 2)), (tabD (nth (t := tTour) l 2) (nth (t := tTour) l 0), tabD (nth (t := tTour) l 2) (nth (t := tTour) l 1), []))), some 0))
theorem newPlanner_fn3 (l : List DT) (hl : l.length = 3) : Fn Tryz.prog 64 [⟨.slice tTour, l⟩] false [⟨.ext .ref tPlanner, some (plD3 l)⟩] := by
  unfold plD3
  refine fnP_enter tabOK mixes Tryz.func64 rfl rfl _ Tryz.ntmps64 _ Tryz.results64 (by simp) fun hwf => ?_
  try simp (maxSteps := 9999999) only [go_sem]
  refine LoopG.intro _ _ _ (fun y : Nat => match y with | 0 => ⟨[(0, .sl tTour l), (3, .ptr 0 0), (12, .sl tTour l), (13, .sc (.int .i64 l.length)), (14, .sc (.int .i64 0))], [(0, .box [.sl tTour l, .sl (.slice .bool) ([]), .sl (.slice .bool) ([]), .sl (.slice .bool) ([]), .sl (.slice .bool) ([]), .sl (.slice .bool) ([]), .sl (.slice .bool) ([]), .sl (.slice .bool) ([]), .sl (.slice .bool) ([]), .sl (.slice .bool) ([]), .ex .opq .int (some 0)])]⟩ | 1 => ⟨[(0, .sl tTour l), (3, .ptr 0 0), (12, .sl tTour l), (13, .sc (.int .i64 l.length)), (14, .sc (.int .i64 1))], [(0, .box [.sl tTour l, .sl (.slice .bool) ([]), .sl (.slice .bool) (tabD (nth (t := tTour) l 0) (nth (t := tTour) l 1)), .sl (.slice .bool) (tabD (nth (t := tTour) l 0) (nth (t := tTour) l 2)), .sl (.slice .bool) ([]), .sl (.slice .bool) ([]), .sl (.slice .bool) ([]), .sl (.slice .bool) ([]), .sl (.slice .bool) ([]), .sl (.slice .bool) ([]), .ex .opq .int (some 0)])]⟩ | 2 => ⟨[(0, .sl tTour l), (3, .ptr 0 0), (12, .sl tTour l), (13, .sc (.int .i64 l.length)), (14, .sc (.int .i64 2))], [(0, .box [.sl tTour l, .sl (.slice .bool) ([]), .sl (.slice .bool) (tabD (nth (t := tTour) l 0) (nth (t := tTour) l 1)), .sl (.slice .bool) (tabD (nth (t := tTour) l 0) (nth (t := tTour) l 2)), .sl (.slice .bool) (tabD (nth (t := tTour) l 1) (nth (t := tTour) l 0)), .sl (.slice .bool) ([]), .sl (.slice .bool) (tabD (nth (t := tTour) l 1) (nth (t := tTour) l 2)), .sl (.slice .bool) ([]), .sl (.slice .bool) ([]), .sl (.slice .bool) ([]), .ex .opq .int (some 0)])]⟩ | _ => ⟨[(0, .sl tTour l), (3, .ptr 0 0), (12, .sl tTour l), (13, .sc (.int .i64 l.length)), (14, .sc (.int .i64 3))], [(0, .box [.sl tTour l, .sl (.slice .bool) ([]), .sl (.slice .bool) (tabD (nth (t := tTour) l 0) (nth (t := tTour) l 1)), .sl (.slice .bool) (tabD (nth (t := tTour) l 0) (nth (t := tTour) l 2)), .sl (.slice .bool) (tabD (nth (t := tTour) l 1) (nth (t := tTour) l 0)), .sl (.slice .bool) ([]), .sl (.slice .bool) (tabD (nth (t := tTour) l 1) (nth (t := tTour) l 2)), .sl (.slice .bool) (tabD (nth (t := tTour) l 2) (nth (t := tTour) l 0)), .sl (.slice .bool) (tabD (nth (t := tTour) l 2) (nth (t := tTour) l 1)), .sl (.slice .bool) ([]), .ex .opq .int (some 0)])]⟩) (fun y => y ≤ 3) (fun y => 3 - y) 0 ?_ (Nat.zero_le _) ?_
  · refine Wk.mk [] ?_
    try simp (maxSteps := 9999999) only [go_sem]
  · rintro y hy
    obtain rfl | rfl | rfl | rfl : y = 0 ∨ y = 1 ∨ y = 2 ∨ y = 3 := by omega
    · try simp (maxSteps := 9999999) only [go_sem]
      refine CondW_dec (fun hA => ?_) (fun hA => absurd (by rw [hl]; decide) hA)
      try simp (maxSteps := 9999999) only [go_sem]
      repeat refine And.intro (by first|omega|(constructor<;>omega)|kernel_rfl) ?_
      refine LoopG.intro _ _ _ (fun z : Nat => match z with | 0 => ⟨[(0, .sl tTour l), (3, .ptr 0 0), (4, .sc (.int .i64 0)), (5, .ptr 1 0), (12, .sl tTour l), (13, .sc (.int .i64 l.length)), (14, .sc (.int .i64 0)), (19, .sl tTour l), (20, .sc (.int .i64 l.length)), (21, .sc (.int .i64 0))], [(0, .box [.sl tTour l, .sl (.slice .bool) ([]), .sl (.slice .bool) ([]), .sl (.slice .bool) ([]), .sl (.slice .bool) ([]), .sl (.slice .bool) ([]), .sl (.slice .bool) ([]), .sl (.slice .bool) ([]), .sl (.slice .bool) ([]), .sl (.slice .bool) ([]), .ex .opq .int (some 0)]), (1, .box (cel tTour (nth (t := tTour) l 0)))]⟩ | 1 => ⟨[(0, .sl tTour l), (3, .ptr 0 0), (4, .sc (.int .i64 0)), (5, .ptr 1 0), (12, .sl tTour l), (13, .sc (.int .i64 l.length)), (14, .sc (.int .i64 0)), (19, .sl tTour l), (20, .sc (.int .i64 l.length)), (21, .sc (.int .i64 1))], [(0, .box [.sl tTour l, .sl (.slice .bool) ([]), .sl (.slice .bool) ([]), .sl (.slice .bool) ([]), .sl (.slice .bool) ([]), .sl (.slice .bool) ([]), .sl (.slice .bool) ([]), .sl (.slice .bool) ([]), .sl (.slice .bool) ([]), .sl (.slice .bool) ([]), .ex .opq .int (some 0)]), (1, .box (cel tTour (nth (t := tTour) l 0)))]⟩ | 2 => ⟨[(0, .sl tTour l), (3, .ptr 0 0), (4, .sc (.int .i64 0)), (5, .ptr 1 0), (12, .sl tTour l), (13, .sc (.int .i64 l.length)), (14, .sc (.int .i64 0)), (19, .sl tTour l), (20, .sc (.int .i64 l.length)), (21, .sc (.int .i64 2))], [(0, .box [.sl tTour l, .sl (.slice .bool) ([]), .sl (.slice .bool) (tabD (nth (t := tTour) l 0) (nth (t := tTour) l 1)), .sl (.slice .bool) ([]), .sl (.slice .bool) ([]), .sl (.slice .bool) ([]), .sl (.slice .bool) ([]), .sl (.slice .bool) ([]), .sl (.slice .bool) ([]), .sl (.slice .bool) ([]), .ex .opq .int (some 0)]), (1, .box (cel tTour (nth (t := tTour) l 0)))]⟩ | _ => ⟨[(0, .sl tTour l), (3, .ptr 0 0), (4, .sc (.int .i64 0)), (5, .ptr 1 0), (12, .sl tTour l), (13, .sc (.int .i64 l.length)), (14, .sc (.int .i64 0)), (19, .sl tTour l), (20, .sc (.int .i64 l.length)), (21, .sc (.int .i64 3))], [(0, .box [.sl tTour l, .sl (.slice .bool) ([]), .sl (.slice .bool) (tabD (nth (t := tTour) l 0) (nth (t := tTour) l 1)), .sl (.slice .bool) (tabD (nth (t := tTour) l 0) (nth (t := tTour) l 2)), .sl (.slice .bool) ([]), .sl (.slice .bool) ([]), .sl (.slice .bool) ([]), .sl (.slice .bool) ([]), .sl (.slice .bool) ([]), .sl (.slice .bool) ([]), .ex .opq .int (some 0)]), (1, .box (cel tTour (nth (t := tTour) l 0)))]⟩) (fun z => z ≤ 3) (fun z => 3 - z) 0 ?_ (Nat.zero_le _) ?_
      · refine Wk.mk [] ?_
        try simp (maxSteps := 9999999) only [go_sem]
      · rintro z hz
        obtain rfl | rfl | rfl | rfl : z = 0 ∨ z = 1 ∨ z = 2 ∨ z = 3 := by omega
        · try simp (maxSteps := 9999999) only [go_sem]
          refine CondW_dec (fun hB => ?_) (fun hB => absurd (by rw [hl]; decide) hB)
          try simp (maxSteps := 9999999) only [go_sem]
          repeat refine And.intro (by first|omega|(constructor<;>omega)|kernel_rfl) ?_
          refine LoopK.mk 1 ?_ (by omega) (by omega)
          refine Wk.mk [] ?_
          try simp (maxSteps := 9999999) only [go_sem]
          try (and_intros <;> first | rfl | omega | exact ⟨_, rfl⟩)
        · try simp (maxSteps := 9999999) only [go_sem]
          refine CondW_dec (fun hB => ?_) (fun hB => absurd (by rw [hl]; decide) hB)
          have c1 := (TouchTableI_fn (nth (t := tTour) l 0) (nth (t := tTour) l 1)).sh
          try simp (maxSteps := 9999999) only [go_sem]
          repeat refine And.intro (by first|omega|(constructor<;>omega)|kernel_rfl) ?_
          refine CallW.mk (c1) ?_
          try simp (maxSteps := 9999999) only [go_sem]
          repeat refine And.intro (by first|omega|(constructor<;>omega)|kernel_rfl) ?_
          refine LoopK.mk 2 ?_ (by omega) (by omega)
          refine Wk.mk [] ?_
          try simp (maxSteps := 9999999) only [go_sem]
          try (and_intros <;> first | rfl | omega | exact ⟨_, rfl⟩)
        · try simp (maxSteps := 9999999) only [go_sem]
          refine CondW_dec (fun hB => ?_) (fun hB => absurd (by rw [hl]; decide) hB)
          have c1 := (TouchTableI_fn (nth (t := tTour) l 0) (nth (t := tTour) l 2)).sh
          try simp (maxSteps := 9999999) only [go_sem]
          repeat refine And.intro (by first|omega|(constructor<;>omega)|kernel_rfl) ?_
          refine CallW.mk (c1) ?_
          try simp (maxSteps := 9999999) only [go_sem]
          repeat refine And.intro (by first|omega|(constructor<;>omega)|kernel_rfl) ?_
          refine LoopK.mk 3 ?_ (by omega) (by omega)
          refine Wk.mk [] ?_
          try simp (maxSteps := 9999999) only [go_sem]
          try (and_intros <;> first | rfl | omega | exact ⟨_, rfl⟩)
        · try simp (maxSteps := 9999999) only [go_sem]
          refine CondW_dec (fun hB => by rw [hl] at hB; exact absurd hB (by decide)) (fun hB => ?_)
          try simp (maxSteps := 9999999) only [go_sem]
          repeat refine And.intro (by first|omega|(constructor<;>omega)|kernel_rfl) ?_
          refine LoopK.mk 1 ?_ (by omega) (by omega)
          refine Wk.mk [] ?_
          try simp (maxSteps := 9999999) only [go_sem]
          try (and_intros <;> first | rfl | omega | exact ⟨_, rfl⟩)
    · try simp (maxSteps := 9999999) only [go_sem]
      refine CondW_dec (fun hA => ?_) (fun hA => absurd (by rw [hl]; decide) hA)
      try simp (maxSteps := 9999999) only [go_sem]
      repeat refine And.intro (by first|omega|(constructor<;>omega)|kernel_rfl) ?_
      refine LoopG.intro _ _ _ (fun z : Nat => match z with | 0 => ⟨[(0, .sl tTour l), (3, .ptr 0 0), (4, .sc (.int .i64 1)), (5, .ptr 1 0), (12, .sl tTour l), (13, .sc (.int .i64 l.length)), (14, .sc (.int .i64 1)), (19, .sl tTour l), (20, .sc (.int .i64 l.length)), (21, .sc (.int .i64 0))], [(0, .box [.sl tTour l, .sl (.slice .bool) ([]), .sl (.slice .bool) (tabD (nth (t := tTour) l 0) (nth (t := tTour) l 1)), .sl (.slice .bool) (tabD (nth (t := tTour) l 0) (nth (t := tTour) l 2)), .sl (.slice .bool) ([]), .sl (.slice .bool) ([]), .sl (.slice .bool) ([]), .sl (.slice .bool) ([]), .sl (.slice .bool) ([]), .sl (.slice .bool) ([]), .ex .opq .int (some 0)]), (1, .box (cel tTour (nth (t := tTour) l 1)))]⟩ | 1 => ⟨[(0, .sl tTour l), (3, .ptr 0 0), (4, .sc (.int .i64 1)), (5, .ptr 1 0), (12, .sl tTour l), (13, .sc (.int .i64 l.length)), (14, .sc (.int .i64 1)), (19, .sl tTour l), (20, .sc (.int .i64 l.length)), (21, .sc (.int .i64 1))], [(0, .box [.sl tTour l, .sl (.slice .bool) ([]), .sl (.slice .bool) (tabD (nth (t := tTour) l 0) (nth (t := tTour) l 1)), .sl (.slice .bool) (tabD (nth (t := tTour) l 0) (nth (t := tTour) l 2)), .sl (.slice .bool) (tabD (nth (t := tTour) l 1) (nth (t := tTour) l 0)), .sl (.slice .bool) ([]), .sl (.slice .bool) ([]), .sl (.slice .bool) ([]), .sl (.slice .bool) ([]), .sl (.slice .bool) ([]), .ex .opq .int (some 0)]), (1, .box (cel tTour (nth (t := tTour) l 1)))]⟩ | 2 => ⟨[(0, .sl tTour l), (3, .ptr 0 0), (4, .sc (.int .i64 1)), (5, .ptr 1 0), (12, .sl tTour l), (13, .sc (.int .i64 l.length)), (14, .sc (.int .i64 1)), (19, .sl tTour l), (20, .sc (.int .i64 l.length)), (21, .sc (.int .i64 2))], [(0, .box [.sl tTour l, .sl (.slice .bool) ([]), .sl (.slice .bool) (tabD (nth (t := tTour) l 0) (nth (t := tTour) l 1)), .sl (.slice .bool) (tabD (nth (t := tTour) l 0) (nth (t := tTour) l 2)), .sl (.slice .bool) (tabD (nth (t := tTour) l 1) (nth (t := tTour) l 0)), .sl (.slice .bool) ([]), .sl (.slice .bool) ([]), .sl (.slice .bool) ([]), .sl (.slice .bool) ([]), .sl (.slice .bool) ([]), .ex .opq .int (some 0)]), (1, .box (cel tTour (nth (t := tTour) l 1)))]⟩ | _ => ⟨[(0, .sl tTour l), (3, .ptr 0 0), (4, .sc (.int .i64 1)), (5, .ptr 1 0), (12, .sl tTour l), (13, .sc (.int .i64 l.length)), (14, .sc (.int .i64 1)), (19, .sl tTour l), (20, .sc (.int .i64 l.length)), (21, .sc (.int .i64 3))], [(0, .box [.sl tTour l, .sl (.slice .bool) ([]), .sl (.slice .bool) (tabD (nth (t := tTour) l 0) (nth (t := tTour) l 1)), .sl (.slice .bool) (tabD (nth (t := tTour) l 0) (nth (t := tTour) l 2)), .sl (.slice .bool) (tabD (nth (t := tTour) l 1) (nth (t := tTour) l 0)), .sl (.slice .bool) ([]), .sl (.slice .bool) (tabD (nth (t := tTour) l 1) (nth (t := tTour) l 2)), .sl (.slice .bool) ([]), .sl (.slice .bool) ([]), .sl (.slice .bool) ([]), .ex .opq .int (some 0)]), (1, .box (cel tTour (nth (t := tTour) l 1)))]⟩) (fun z => z ≤ 3) (fun z => 3 - z) 0 ?_ (Nat.zero_le _) ?_
      · refine Wk.mk [] ?_
        try simp (maxSteps := 9999999) only [go_sem]
      · rintro z hz
        obtain rfl | rfl | rfl | rfl : z = 0 ∨ z = 1 ∨ z = 2 ∨ z = 3 := by omega
        · try simp (maxSteps := 9999999) only [go_sem]
          refine CondW_dec (fun hB => ?_) (fun hB => absurd (by rw [hl]; decide) hB)
          have c1 := (TouchTableI_fn (nth (t := tTour) l 1) (nth (t := tTour) l 0)).sh
          try simp (maxSteps := 9999999) only [go_sem]
          repeat refine And.intro (by first|omega|(constructor<;>omega)|kernel_rfl) ?_
          refine CallW.mk (c1) ?_
          try simp (maxSteps := 9999999) only [go_sem]
          repeat refine And.intro (by first|omega|(constructor<;>omega)|kernel_rfl) ?_
          refine LoopK.mk 1 ?_ (by omega) (by omega)
          refine Wk.mk [] ?_
          try simp (maxSteps := 9999999) only [go_sem]
          try (and_intros <;> first | rfl | omega | exact ⟨_, rfl⟩)
        · try simp (maxSteps := 9999999) only [go_sem]
          refine CondW_dec (fun hB => ?_) (fun hB => absurd (by rw [hl]; decide) hB)
          try simp (maxSteps := 9999999) only [go_sem]
          repeat refine And.intro (by first|omega|(constructor<;>omega)|kernel_rfl) ?_
          refine LoopK.mk 2 ?_ (by omega) (by omega)
          refine Wk.mk [] ?_
          try simp (maxSteps := 9999999) only [go_sem]
          try (and_intros <;> first | rfl | omega | exact ⟨_, rfl⟩)
        · try simp (maxSteps := 9999999) only [go_sem]
          refine CondW_dec (fun hB => ?_) (fun hB => absurd (by rw [hl]; decide) hB)
          have c1 := (TouchTableI_fn (nth (t := tTour) l 1) (nth (t := tTour) l 2)).sh
          try simp (maxSteps := 9999999) only [go_sem]
          repeat refine And.intro (by first|omega|(constructor<;>omega)|kernel_rfl) ?_
          refine CallW.mk (c1) ?_
          try simp (maxSteps := 9999999) only [go_sem]
          repeat refine And.intro (by first|omega|(constructor<;>omega)|kernel_rfl) ?_
          refine LoopK.mk 3 ?_ (by omega) (by omega)
          refine Wk.mk [] ?_
          try simp (maxSteps := 9999999) only [go_sem]
          try (and_intros <;> first | rfl | omega | exact ⟨_, rfl⟩)
        · try simp (maxSteps := 9999999) only [go_sem]
          refine CondW_dec (fun hB => by rw [hl] at hB; exact absurd hB (by decide)) (fun hB => ?_)
          try simp (maxSteps := 9999999) only [go_sem]
          repeat refine And.intro (by first|omega|(constructor<;>omega)|kernel_rfl) ?_
          refine LoopK.mk 2 ?_ (by omega) (by omega)
          refine Wk.mk [] ?_
          try simp (maxSteps := 9999999) only [go_sem]
          try (and_intros <;> first | rfl | omega | exact ⟨_, rfl⟩)
    · try simp (maxSteps := 9999999) only [go_sem]
      refine CondW_dec (fun hA => ?_) (fun hA => absurd (by rw [hl]; decide) hA)
      try simp (maxSteps := 9999999) only [go_sem]
      repeat refine And.intro (by first|omega|(constructor<;>omega)|kernel_rfl) ?_
      refine LoopG.intro _ _ _ (fun z : Nat => match z with | 0 => ⟨[(0, .sl tTour l), (3, .ptr 0 0), (4, .sc (.int .i64 2)), (5, .ptr 1 0), (12, .sl tTour l), (13, .sc (.int .i64 l.length)), (14, .sc (.int .i64 2)), (19, .sl tTour l), (20, .sc (.int .i64 l.length)), (21, .sc (.int .i64 0))], [(0, .box [.sl tTour l, .sl (.slice .bool) ([]), .sl (.slice .bool) (tabD (nth (t := tTour) l 0) (nth (t := tTour) l 1)), .sl (.slice .bool) (tabD (nth (t := tTour) l 0) (nth (t := tTour) l 2)), .sl (.slice .bool) (tabD (nth (t := tTour) l 1) (nth (t := tTour) l 0)), .sl (.slice .bool) ([]), .sl (.slice .bool) (tabD (nth (t := tTour) l 1) (nth (t := tTour) l 2)), .sl (.slice .bool) ([]), .sl (.slice .bool) ([]), .sl (.slice .bool) ([]), .ex .opq .int (some 0)]), (1, .box (cel tTour (nth (t := tTour) l 2)))]⟩ | 1 => ⟨[(0, .sl tTour l), (3, .ptr 0 0), (4, .sc (.int .i64 2)), (5, .ptr 1 0), (12, .sl tTour l), (13, .sc (.int .i64 l.length)), (14, .sc (.int .i64 2)), (19, .sl tTour l), (20, .sc (.int .i64 l.length)), (21, .sc (.int .i64 1))], [(0, .box [.sl tTour l, .sl (.slice .bool) ([]), .sl (.slice .bool) (tabD (nth (t := tTour) l 0) (nth (t := tTour) l 1)), .sl (.slice .bool) (tabD (nth (t := tTour) l 0) (nth (t := tTour) l 2)), .sl (.slice .bool) (tabD (nth (t := tTour) l 1) (nth (t := tTour) l 0)), .sl (.slice .bool) ([]), .sl (.slice .bool) (tabD (nth (t := tTour) l 1) (nth (t := tTour) l 2)), .sl (.slice .bool) (tabD (nth (t := tTour) l 2) (nth (t := tTour) l 0)), .sl (.slice .bool) ([]), .sl (.slice .bool) ([]), .ex .opq .int (some 0)]), (1, .box (cel tTour (nth (t := tTour) l 2)))]⟩ | 2 => ⟨[(0, .sl tTour l), (3, .ptr 0 0), (4, .sc (.int .i64 2)), (5, .ptr 1 0), (12, .sl tTour l), (13, .sc (.int .i64 l.length)), (14, .sc (.int .i64 2)), (19, .sl tTour l), (20, .sc (.int .i64 l.length)), (21, .sc (.int .i64 2))], [(0, .box [.sl tTour l, .sl (.slice .bool) ([]), .sl (.slice .bool) (tabD (nth (t := tTour) l 0) (nth (t := tTour) l 1)), .sl (.slice .bool) (tabD (nth (t := tTour) l 0) (nth (t := tTour) l 2)), .sl (.slice .bool) (tabD (nth (t := tTour) l 1) (nth (t := tTour) l 0)), .sl (.slice .bool) ([]), .sl (.slice .bool) (tabD (nth (t := tTour) l 1) (nth (t := tTour) l 2)), .sl (.slice .bool) (tabD (nth (t := tTour) l 2) (nth (t := tTour) l 0)), .sl (.slice .bool) (tabD (nth (t := tTour) l 2) (nth (t := tTour) l 1)), .sl (.slice .bool) ([]), .ex .opq .int (some 0)]), (1, .box (cel tTour (nth (t := tTour) l 2)))]⟩ | _ => ⟨[(0, .sl tTour l), (3, .ptr 0 0), (4, .sc (.int .i64 2)), (5, .ptr 1 0), (12, .sl tTour l), (13, .sc (.int .i64 l.length)), (14, .sc (.int .i64 2)), (19, .sl tTour l), (20, .sc (.int .i64 l.length)), (21, .sc (.int .i64 3))], [(0, .box [.sl tTour l, .sl (.slice .bool) ([]), .sl (.slice .bool) (tabD (nth (t := tTour) l 0) (nth (t := tTour) l 1)), .sl (.slice .bool) (tabD (nth (t := tTour) l 0) (nth (t := tTour) l 2)), .sl (.slice .bool) (tabD (nth (t := tTour) l 1) (nth (t := tTour) l 0)), .sl (.slice .bool) ([]), .sl (.slice .bool) (tabD (nth (t := tTour) l 1) (nth (t := tTour) l 2)), .sl (.slice .bool) (tabD (nth (t := tTour) l 2) (nth (t := tTour) l 0)), .sl (.slice .bool) (tabD (nth (t := tTour) l 2) (nth (t := tTour) l 1)), .sl (.slice .bool) ([]), .ex .opq .int (some 0)]), (1, .box (cel tTour (nth (t := tTour) l 2)))]⟩) (fun z => z ≤ 3) (fun z => 3 - z) 0 ?_ (Nat.zero_le _) ?_
      · refine Wk.mk [] ?_
        try simp (maxSteps := 9999999) only [go_sem]
      · rintro z hz
        obtain rfl | rfl | rfl | rfl : z = 0 ∨ z = 1 ∨ z = 2 ∨ z = 3 := by omega
        · try simp (maxSteps := 9999999) only [go_sem]
          refine CondW_dec (fun hB => ?_) (fun hB => absurd (by rw [hl]; decide) hB)
          have c1 := (TouchTableI_fn (nth (t := tTour) l 2) (nth (t := tTour) l 0)).sh
          try simp (maxSteps := 9999999) only [go_sem]
          repeat refine And.intro (by first|omega|(constructor<;>omega)|kernel_rfl) ?_
          refine CallW.mk (c1) ?_
          try simp (maxSteps := 9999999) only [go_sem]
          repeat refine And.intro (by first|omega|(constructor<;>omega)|kernel_rfl) ?_
          refine LoopK.mk 1 ?_ (by omega) (by omega)
          refine Wk.mk [] ?_
          try simp (maxSteps := 9999999) only [go_sem]
          try (and_intros <;> first | rfl | omega | exact ⟨_, rfl⟩)
        · try simp (maxSteps := 9999999) only [go_sem]
          refine CondW_dec (fun hB => ?_) (fun hB => absurd (by rw [hl]; decide) hB)
          have c1 := (TouchTableI_fn (nth (t := tTour) l 2) (nth (t := tTour) l 1)).sh
          try simp (maxSteps := 9999999) only [go_sem]
          repeat refine And.intro (by first|omega|(constructor<;>omega)|kernel_rfl) ?_
          refine CallW.mk (c1) ?_
          try simp (maxSteps := 9999999) only [go_sem]
          repeat refine And.intro (by first|omega|(constructor<;>omega)|kernel_rfl) ?_
          refine LoopK.mk 2 ?_ (by omega) (by omega)
          refine Wk.mk [] ?_
          try simp (maxSteps := 9999999) only [go_sem]
          try (and_intros <;> first | rfl | omega | exact ⟨_, rfl⟩)
        · try simp (maxSteps := 9999999) only [go_sem]
          refine CondW_dec (fun hB => ?_) (fun hB => absurd (by rw [hl]; decide) hB)
          try simp (maxSteps := 9999999) only [go_sem]
          repeat refine And.intro (by first|omega|(constructor<;>omega)|kernel_rfl) ?_
          refine LoopK.mk 3 ?_ (by omega) (by omega)
          refine Wk.mk [] ?_
          try simp (maxSteps := 9999999) only [go_sem]
          try (and_intros <;> first | rfl | omega | exact ⟨_, rfl⟩)
        · try simp (maxSteps := 9999999) only [go_sem]
          refine CondW_dec (fun hB => by rw [hl] at hB; exact absurd hB (by decide)) (fun hB => ?_)
          try simp (maxSteps := 9999999) only [go_sem]
          repeat refine And.intro (by first|omega|(constructor<;>omega)|kernel_rfl) ?_
          refine LoopK.mk 3 ?_ (by omega) (by omega)
          refine Wk.mk [] ?_
          try simp (maxSteps := 9999999) only [go_sem]
          try (and_intros <;> first | rfl | omega | exact ⟨_, rfl⟩)
    · try simp (maxSteps := 9999999) only [go_sem]
      refine CondW_dec (fun hA => by rw [hl] at hA; exact absurd hA (by decide)) (fun hA => ?_)
      try simp (maxSteps := 9999999) only [go_sem]
      all_goals first | kernel_rfl | omega | rfl
end Go.Proofs.YtghckbohaghgkaaGreat.DW

/-
  stateOf and advance of a planner, as contracts on data (printed by gen17.py).
-/
namespace Go.Proofs.YtghckbohaghgkaaGreat.DW
open Go.RowKit
theorem tab_len {a b : DT} (ha : tourB a = true) (hb : tourB b = true) : (tabD a b).length = a.2.2.length := by
  rw [show tabD a b = tabTo a b a.2.2.length from if_pos (by rw [ha, hb]; rfl), tabTo_len]
theorem tab_nth {a b : DT} (ha : tourB a = true) (hb : tourB b = true) {i : Int} (h0 : 0 ≤ i) (h1 : i < a.2.2.length) : nth (t := .slice .bool) (tabD a b) i.toNat = tabRow a b i.toNat (b.2.2.length + 1) := by
  have e : tabD a b = tabTo a b a.2.2.length := if_pos (by rw [ha, hb]; rfl)
  rw [e, nth_lt (by rw [tabTo_len]; omega)]
  unfold tabTo
  rw [List.getElem_map, List.getElem_range]
theorem tab_nlen {a b : DT} (ha : tourB a = true) (hb : tourB b = true) {i : Int} (h0 : 0 ≤ i) (h1 : i < a.2.2.length) : (nth (t := .slice .bool) (tabD a b) i.toNat).length = b.2.2.length + 1 := by
  rw [tab_nth ha hb h0 h1, tabRow_len]
theorem tab_get {a b : DT} (ha : tourB a = true) (hb : tourB b = true) {i j : Int} (h0 : 0 ≤ i) (h1 : i < a.2.2.length) (h2 : 0 ≤ j) (h3 : j ≤ b.2.2.length) : nth (t := .bool) (nth (t := .slice .bool) (tabD a b) i.toNat) j.toNat = stpTB a i b j := by
  rw [tab_nth ha hb h0 h1, nth_lt (by rw [tabRow_len]; omega)]
  unfold tabRow
  rw [List.getElem_map, List.getElem_range, show ((i.toNat : Nat) : Int) = i by omega, show ((j.toNat : Nat) : Int) = j by omega]

@[go_sem] theorem plD1_l (l : List DT) : (plD1 l).1 = l := (rfl)
@[go_sem] theorem plD1_00 (l : List DT) : (plD1 l).2.1.1.1 = [] := (rfl)
@[go_sem] theorem plD1_01 (l : List DT) : (plD1 l).2.1.1.2.1 = [] := (rfl)
@[go_sem] theorem plD1_02 (l : List DT) : (plD1 l).2.1.1.2.2 = [] := (rfl)
@[go_sem] theorem plD1_10 (l : List DT) : (plD1 l).2.1.2.1.1 = [] := (rfl)
@[go_sem] theorem plD1_11 (l : List DT) : (plD1 l).2.1.2.1.2.1 = [] := (rfl)
@[go_sem] theorem plD1_12 (l : List DT) : (plD1 l).2.1.2.1.2.2 = [] := (rfl)
@[go_sem] theorem plD1_20 (l : List DT) : (plD1 l).2.1.2.2.1 = [] := (rfl)
@[go_sem] theorem plD1_21 (l : List DT) : (plD1 l).2.1.2.2.2.1 = [] := (rfl)
@[go_sem] theorem plD1_22 (l : List DT) : (plD1 l).2.1.2.2.2.2 = [] := (rfl)
@[go_sem] theorem plD2_l (l : List DT) : (plD2 l).1 = l := (rfl)
@[go_sem] theorem plD2_00 (l : List DT) : (plD2 l).2.1.1.1 = [] := (rfl)
@[go_sem] theorem plD2_01 (l : List DT) : (plD2 l).2.1.1.2.1 = tabD (nth (t := tTour) l 0) (nth (t := tTour) l 1) := (rfl)
@[go_sem] theorem plD2_02 (l : List DT) : (plD2 l).2.1.1.2.2 = [] := (rfl)
@[go_sem] theorem plD2_10 (l : List DT) : (plD2 l).2.1.2.1.1 = tabD (nth (t := tTour) l 1) (nth (t := tTour) l 0) := (rfl)
@[go_sem] theorem plD2_11 (l : List DT) : (plD2 l).2.1.2.1.2.1 = [] := (rfl)
@[go_sem] theorem plD2_12 (l : List DT) : (plD2 l).2.1.2.1.2.2 = [] := (rfl)
@[go_sem] theorem plD2_20 (l : List DT) : (plD2 l).2.1.2.2.1 = [] := (rfl)
@[go_sem] theorem plD2_21 (l : List DT) : (plD2 l).2.1.2.2.2.1 = [] := (rfl)
@[go_sem] theorem plD2_22 (l : List DT) : (plD2 l).2.1.2.2.2.2 = [] := (rfl)
@[go_sem] theorem plD3_l (l : List DT) : (plD3 l).1 = l := (rfl)
@[go_sem] theorem plD3_00 (l : List DT) : (plD3 l).2.1.1.1 = [] := (rfl)
@[go_sem] theorem plD3_01 (l : List DT) : (plD3 l).2.1.1.2.1 = tabD (nth (t := tTour) l 0) (nth (t := tTour) l 1) := (rfl)
@[go_sem] theorem plD3_02 (l : List DT) : (plD3 l).2.1.1.2.2 = tabD (nth (t := tTour) l 0) (nth (t := tTour) l 2) := (rfl)
@[go_sem] theorem plD3_10 (l : List DT) : (plD3 l).2.1.2.1.1 = tabD (nth (t := tTour) l 1) (nth (t := tTour) l 0) := (rfl)
@[go_sem] theorem plD3_11 (l : List DT) : (plD3 l).2.1.2.1.2.1 = [] := (rfl)
@[go_sem] theorem plD3_12 (l : List DT) : (plD3 l).2.1.2.1.2.2 = tabD (nth (t := tTour) l 1) (nth (t := tTour) l 2) := (rfl)
@[go_sem] theorem plD3_20 (l : List DT) : (plD3 l).2.1.2.2.1 = tabD (nth (t := tTour) l 2) (nth (t := tTour) l 0) := (rfl)
@[go_sem] theorem plD3_21 (l : List DT) : (plD3 l).2.1.2.2.2.1 = tabD (nth (t := tTour) l 2) (nth (t := tTour) l 1) := (rfl)
@[go_sem] theorem plD3_22 (l : List DT) : (plD3 l).2.1.2.2.2.2 = [] := (rfl)
set_option maxRecDepth 100000 in
set_option maxHeartbeats 4000000 in
theorem stateOf_fn1 (l : List DT) (hl : l.length = 1) (st : List Int) (hst : stP l st) : Fn Tryz.prog 65 [⟨.ext .ref tPlanner, some (plD1 l)⟩, ⟨tInts, st⟩] false [⟨tState, (ni st 0, (0 : Int), (0 : Int))⟩, ⟨.bool, true⟩] := by
  have h0 : (st.length : Int) = l.length := by rw [hst.1]
  have h0' := hst.1
  have d0 := decide_eq_true h0
  have v0 := hst.2 0 (by rw [hst.1, hl]; decide)
  unfold stAt at v0
  refine fn_enter tabOK mixes Tryz.func65 rfl rfl _ Tryz.ntmps65 _ Tryz.results65 (by simp) fun hwf => ?_
  try simp (maxSteps := 9999999) only [go_sem]
  try simp (maxSteps := 9999999) only [go_sem, d0]
  refine LoopG.intro _ _ _ (fun y : Nat => match y with | 0 => ⟨[(0, .ref tPlanner (plD1 l) 0), (1, .sl .int st), (4, .ptr 0 0), (5, .sc (.bool false)), (6, .ptr 1 0), (19, .sl .int st), (20, .sc (.int .i64 st.length)), (21, .sc (.int .i64 0))], [(0, .box [.sc (.int .i64 0), .sc (.int .i64 0), .sc (.int .i64 0)]), (1, .box [.sc (.int .i64 0), .sc (.int .i64 0), .sc (.int .i64 0)])]⟩ | _ => ⟨[(0, .ref tPlanner (plD1 l) 0), (1, .sl .int st), (4, .ptr 0 0), (5, .sc (.bool false)), (6, .ptr 1 0), (19, .sl .int st), (20, .sc (.int .i64 st.length)), (21, .sc (.int .i64 1))], [(0, .box [.sc (.int .i64 0), .sc (.int .i64 0), .sc (.int .i64 0)]), (1, .box [.sc (.int .i64 (ni st 0)), .sc (.int .i64 0), .sc (.int .i64 0)])]⟩) (fun y => y ≤ 1) (fun y => 1 - y) 0 ?_ (Nat.zero_le _) ?_
  · refine Wk.mk [] ?_
    try simp (maxSteps := 9999999) only [go_sem]
  · rintro y hy
    obtain rfl | rfl : y = 0 ∨ y = 1 := by omega
    · try simp (maxSteps := 9999999) only [go_sem]
      refine CondW_dec (fun hA => ?_) (fun hA => absurd (by rw [h0', hl]; decide) hA)
      have c1 := within_fn (ni st 0) 0 (nth (t := tTour) l 0).2.2.length
      rw [decide_eq_true v0] at c1
      try simp (maxSteps := 9999999) only [go_sem]
      repeat refine And.intro (by first|omega|(constructor<;>omega)|kernel_rfl) ?_
      refine CallW.mk (c1) ?_
      try simp (maxSteps := 9999999) only [go_sem]
      repeat refine And.intro (by first|omega|(constructor<;>omega)|kernel_rfl) ?_
      refine LoopK.mk 1 ?_ (by omega) (by omega)
      refine Wk.mk [] ?_
      try simp (maxSteps := 9999999) only [go_sem]
      try (and_intros <;> first | rfl | omega | exact ⟨_, rfl⟩)
    · try simp (maxSteps := 9999999) only [go_sem]
      refine CondW_dec (fun hA => by rw [h0', hl] at hA; exact absurd hA (by decide)) (fun hA => ?_)
      try simp (maxSteps := 9999999) only [go_sem]
      all_goals first | kernel_rfl | omega | rfl
set_option maxRecDepth 100000 in
set_option maxHeartbeats 4000000 in
theorem stateOf_bad1 (l : List DT) (hl : l.length = 1) (st : List Int) (hst : ¬ stP l st) : ∃ s : Int × Int × Int, Fn Tryz.prog 65 [⟨.ext .ref tPlanner, some (plD1 l)⟩, ⟨tInts, st⟩] false [⟨tState, s⟩, ⟨.bool, false⟩] := by
  by_cases h0 : (st.length : Int) = l.length
  · have h0' : st.length = l.length := by omega
    have d0 := decide_eq_true h0
    by_cases v0 : 0 ≤ ni st 0 ∧ ni st 0 ≤ (nth (t := tTour) l 0).2.2.length
    rotate_left
    · refine ⟨((0 : Int), (0 : Int), (0 : Int)), ?_⟩
      refine fn_enter tabOK mixes Tryz.func65 rfl rfl _ Tryz.ntmps65 _ Tryz.results65 (by simp) fun hwf => ?_
      try simp (maxSteps := 9999999) only [go_sem]
      try simp (maxSteps := 9999999) only [go_sem, d0]
      refine LoopG.intro _ _ _ (fun _ : Nat => ⟨[(0, .ref tPlanner (plD1 l) 0), (1, .sl .int st), (4, .ptr 0 0), (5, .sc (.bool false)), (6, .ptr 1 0), (19, .sl .int st), (20, .sc (.int .i64 st.length)), (21, .sc (.int .i64 0))], [(0, .box [.sc (.int .i64 0), .sc (.int .i64 0), .sc (.int .i64 0)]), (1, .box [.sc (.int .i64 0), .sc (.int .i64 0), .sc (.int .i64 0)])]⟩) (fun y => y ≤ 0) (fun y => 0 - y) 0 ?_ (Nat.zero_le _) ?_
      · refine Wk.mk [] ?_
        try simp (maxSteps := 9999999) only [go_sem]
      · rintro y hy
        obtain rfl : y = 0 := by omega
        · try simp (maxSteps := 9999999) only [go_sem]
          refine CondW_dec (fun hA => ?_) (fun hA => absurd (by rw [h0', hl]; decide) hA)
          have c1 := within_fn (ni st 0) 0 (nth (t := tTour) l 0).2.2.length
          rw [decide_eq_false v0] at c1
          try simp (maxSteps := 9999999) only [go_sem]
          repeat refine And.intro (by first|omega|(constructor<;>omega)|kernel_rfl) ?_
          refine CallW.mk (c1) ?_
          try simp (maxSteps := 9999999) only [go_sem]
          all_goals first | kernel_rfl | omega | rfl
    exact absurd ⟨h0', fun i hi => by
      rw [h0', hl] at hi
      obtain rfl : i = 0 := by omega
      · exact v0⟩ hst
  · have d0 := decide_eq_false h0
    refine ⟨((0 : Int), (0 : Int), (0 : Int)), ?_⟩
    refine fn_enter tabOK mixes Tryz.func65 rfl rfl _ Tryz.ntmps65 _ Tryz.results65 (by simp) fun hwf => ?_
    try simp (maxSteps := 9999999) only [go_sem]
    try simp (maxSteps := 9999999) only [go_sem, d0]
    all_goals first | kernel_rfl | omega | rfl
set_option maxRecDepth 100000 in
set_option maxHeartbeats 4000000 in
theorem advance_fn10 (l : List DT) (hl : l.length = 1) (st : List Int) (har : arP l) (hst : stP l st) : Fn Tryz.prog 66 [⟨.ext .ref tPlanner, some (plD1 l)⟩, ⟨tState, (ni st 0, (0 : Int), (0 : Int))⟩, ⟨.int, 0⟩] false [⟨tState, bif bdec (frP l st 0) then (ni st 0 + 1, (0 : Int), (0 : Int)) else (ni st 0, (0 : Int), (0 : Int))⟩, ⟨.bool, bdec (frP l st 0)⟩] := by
  have hr0 := (har 0 (by rw [hl]; decide)).1
  have v0 := hst.2 0 (by rw [hst.1, hl]; decide)
  unfold stAt at v0
  have hs8 := (tour_parts hr0).2.2.2.1
  by_cases h0 : ni st 0 = (nth (t := tTour) l 0).2.2.length
  · have d0 := decide_eq_true h0
    rw [bdec_f fun h => h.1 h0, cond_false]
    refine fn_enter tabOK mixes Tryz.func66 rfl rfl _ Tryz.ntmps66 _ Tryz.results66 (by simp) fun hwf => ?_
    try simp (maxSteps := 9999999) only [go_sem]
    repeat refine And.intro (by first|omega|(constructor<;>omega)|kernel_rfl) ?_
    try simp (maxSteps := 9999999) only [go_sem, d0]
    all_goals first | kernel_rfl | omega | rfl
  · have d0 := decide_eq_false h0
    refine fn_enter tabOK mixes Tryz.func66 rfl rfl _ Tryz.ntmps66 _ Tryz.results66 (by simp) fun hwf => ?_
    try simp (maxSteps := 9999999) only [go_sem]
    repeat refine And.intro (by first|omega|(constructor<;>omega)|kernel_rfl) ?_
    try simp (maxSteps := 9999999) only [go_sem, d0]
    refine LoopG.intro _ _ _ (fun y : Nat => match y with | 0 => ⟨[(0, .ref tPlanner (plD1 l) 0), (2, .sc (.int .i64 0)), (4, .ptr 0 0), (6, .ptr 1 0), (7, .sc (.bool false)), (27, .sc (.int .i64 l.length)), (28, .sc (.int .i64 0))], [(0, .box [.sc (.int .i64 (ni st 0)), .sc (.int .i64 0), .sc (.int .i64 0)]), (1, .box [.sc (.int .i64 0), .sc (.int .i64 0), .sc (.int .i64 0)])]⟩ | _ => ⟨[(0, .ref tPlanner (plD1 l) 0), (2, .sc (.int .i64 0)), (4, .ptr 0 0), (6, .ptr 1 0), (7, .sc (.bool false)), (27, .sc (.int .i64 l.length)), (28, .sc (.int .i64 1))], [(0, .box [.sc (.int .i64 (ni st 0)), .sc (.int .i64 0), .sc (.int .i64 0)]), (1, .box [.sc (.int .i64 0), .sc (.int .i64 0), .sc (.int .i64 0)])]⟩) (fun y => y ≤ 1 ∧ ∀ i, i < y → frAt l st 0 i) (fun y => 1 - y) 0 ?_ ⟨Nat.zero_le _, fun i h => absurd h (Nat.not_lt_zero _)⟩ ?_
    · refine Wk.mk [] ?_
      try simp (maxSteps := 9999999) only [go_sem]
    · rintro y ⟨hy, hall⟩
      obtain rfl | rfl : y = 0 ∨ y = 1 := by omega
      · try simp (maxSteps := 9999999) only [go_sem]
        refine CondW_dec (fun hA => ?_) (fun hA => absurd (by rw [hl]; decide) hA)
        try simp (maxSteps := 9999999) only [go_sem]
        repeat refine And.intro (by first|omega|(constructor<;>omega)|kernel_rfl) ?_
        refine LoopK.mk 1 ?_ ⟨by omega, fun i hi => ?_⟩ (by omega)
        · refine Wk.mk [] ?_
          try simp (maxSteps := 9999999) only [go_sem]
          try (and_intros <;> first | rfl | omega | exact ⟨_, rfl⟩)
        · by_cases h : i < 0
          · exact hall i h
          · intro hne; omega
      · try simp (maxSteps := 9999999) only [go_sem]
        refine CondW_dec (fun hA => by rw [hl] at hA; exact absurd hA (by decide)) (fun hA => ?_)
        rw [bdec_t ⟨h0, fun j hj => hall j (by omega)⟩, cond_true]
        try simp (maxSteps := 9999999) only [go_sem]
        repeat refine And.intro (by first|omega|(constructor<;>omega)|kernel_rfl) ?_
        all_goals first | kernel_rfl | omega | rfl
set_option maxRecDepth 100000 in
set_option maxHeartbeats 4000000 in
theorem stateOf_fn2 (l : List DT) (hl : l.length = 2) (st : List Int) (hst : stP l st) : Fn Tryz.prog 65 [⟨.ext .ref tPlanner, some (plD2 l)⟩, ⟨tInts, st⟩] false [⟨tState, (ni st 0, ni st 1, (0 : Int))⟩, ⟨.bool, true⟩] := by
  have h0 : (st.length : Int) = l.length := by rw [hst.1]
  have h0' := hst.1
  have d0 := decide_eq_true h0
  have v0 := hst.2 0 (by rw [hst.1, hl]; decide)
  unfold stAt at v0
  have v1 := hst.2 1 (by rw [hst.1, hl]; decide)
  unfold stAt at v1
  refine fn_enter tabOK mixes Tryz.func65 rfl rfl _ Tryz.ntmps65 _ Tryz.results65 (by simp) fun hwf => ?_
  try simp (maxSteps := 9999999) only [go_sem]
  try simp (maxSteps := 9999999) only [go_sem, d0]
  refine LoopG.intro _ _ _ (fun y : Nat => match y with | 0 => ⟨[(0, .ref tPlanner (plD2 l) 0), (1, .sl .int st), (4, .ptr 0 0), (5, .sc (.bool false)), (6, .ptr 1 0), (19, .sl .int st), (20, .sc (.int .i64 st.length)), (21, .sc (.int .i64 0))], [(0, .box [.sc (.int .i64 0), .sc (.int .i64 0), .sc (.int .i64 0)]), (1, .box [.sc (.int .i64 0), .sc (.int .i64 0), .sc (.int .i64 0)])]⟩ | 1 => ⟨[(0, .ref tPlanner (plD2 l) 0), (1, .sl .int st), (4, .ptr 0 0), (5, .sc (.bool false)), (6, .ptr 1 0), (19, .sl .int st), (20, .sc (.int .i64 st.length)), (21, .sc (.int .i64 1))], [(0, .box [.sc (.int .i64 0), .sc (.int .i64 0), .sc (.int .i64 0)]), (1, .box [.sc (.int .i64 (ni st 0)), .sc (.int .i64 0), .sc (.int .i64 0)])]⟩ | _ => ⟨[(0, .ref tPlanner (plD2 l) 0), (1, .sl .int st), (4, .ptr 0 0), (5, .sc (.bool false)), (6, .ptr 1 0), (19, .sl .int st), (20, .sc (.int .i64 st.length)), (21, .sc (.int .i64 2))], [(0, .box [.sc (.int .i64 0), .sc (.int .i64 0), .sc (.int .i64 0)]), (1, .box [.sc (.int .i64 (ni st 0)), .sc (.int .i64 (ni st 1)), .sc (.int .i64 0)])]⟩) (fun y => y ≤ 2) (fun y => 2 - y) 0 ?_ (Nat.zero_le _) ?_
  · refine Wk.mk [] ?_
    try simp (maxSteps := 9999999) only [go_sem]
  · rintro y hy
    obtain rfl | rfl | rfl : y = 0 ∨ y = 1 ∨ y = 2 := by omega
    · try simp (maxSteps := 9999999) only [go_sem]
      refine CondW_dec (fun hA => ?_) (fun hA => absurd (by rw [h0', hl]; decide) hA)
      have c1 := within_fn (ni st 0) 0 (nth (t := tTour) l 0).2.2.length
      rw [decide_eq_true v0] at c1
      try simp (maxSteps := 9999999) only [go_sem]
      repeat refine And.intro (by first|omega|(constructor<;>omega)|kernel_rfl) ?_
      refine CallW.mk (c1) ?_
      try simp (maxSteps := 9999999) only [go_sem]
      repeat refine And.intro (by first|omega|(constructor<;>omega)|kernel_rfl) ?_
      refine LoopK.mk 1 ?_ (by omega) (by omega)
      refine Wk.mk [] ?_
      try simp (maxSteps := 9999999) only [go_sem]
      try (and_intros <;> first | rfl | omega | exact ⟨_, rfl⟩)
    · try simp (maxSteps := 9999999) only [go_sem]
      refine CondW_dec (fun hA => ?_) (fun hA => absurd (by rw [h0', hl]; decide) hA)
      have c1 := within_fn (ni st 1) 0 (nth (t := tTour) l 1).2.2.length
      rw [decide_eq_true v1] at c1
      try simp (maxSteps := 9999999) only [go_sem]
      repeat refine And.intro (by first|omega|(constructor<;>omega)|kernel_rfl) ?_
      refine CallW.mk (c1) ?_
      try simp (maxSteps := 9999999) only [go_sem]
      repeat refine And.intro (by first|omega|(constructor<;>omega)|kernel_rfl) ?_
      refine LoopK.mk 2 ?_ (by omega) (by omega)
      refine Wk.mk [] ?_
      try simp (maxSteps := 9999999) only [go_sem]
      try (and_intros <;> first | rfl | omega | exact ⟨_, rfl⟩)
    · try simp (maxSteps := 9999999) only [go_sem]
      refine CondW_dec (fun hA => by rw [h0', hl] at hA; exact absurd hA (by decide)) (fun hA => ?_)
      try simp (maxSteps := 9999999) only [go_sem]
      all_goals first | kernel_rfl | omega | rfl
set_option maxRecDepth 100000 in
set_option maxHeartbeats 4000000 in
theorem stateOf_bad2 (l : List DT) (hl : l.length = 2) (st : List Int) (hst : ¬ stP l st) : ∃ s : Int × Int × Int, Fn Tryz.prog 65 [⟨.ext .ref tPlanner, some (plD2 l)⟩, ⟨tInts, st⟩] false [⟨tState, s⟩, ⟨.bool, false⟩] := by
  by_cases h0 : (st.length : Int) = l.length
  · have h0' : st.length = l.length := by omega
    have d0 := decide_eq_true h0
    by_cases v0 : 0 ≤ ni st 0 ∧ ni st 0 ≤ (nth (t := tTour) l 0).2.2.length
    rotate_left
    · refine ⟨((0 : Int), (0 : Int), (0 : Int)), ?_⟩
      refine fn_enter tabOK mixes Tryz.func65 rfl rfl _ Tryz.ntmps65 _ Tryz.results65 (by simp) fun hwf => ?_
      try simp (maxSteps := 9999999) only [go_sem]
      try simp (maxSteps := 9999999) only [go_sem, d0]
      refine LoopG.intro _ _ _ (fun _ : Nat => ⟨[(0, .ref tPlanner (plD2 l) 0), (1, .sl .int st), (4, .ptr 0 0), (5, .sc (.bool false)), (6, .ptr 1 0), (19, .sl .int st), (20, .sc (.int .i64 st.length)), (21, .sc (.int .i64 0))], [(0, .box [.sc (.int .i64 0), .sc (.int .i64 0), .sc (.int .i64 0)]), (1, .box [.sc (.int .i64 0), .sc (.int .i64 0), .sc (.int .i64 0)])]⟩) (fun y => y ≤ 0) (fun y => 0 - y) 0 ?_ (Nat.zero_le _) ?_
      · refine Wk.mk [] ?_
        try simp (maxSteps := 9999999) only [go_sem]
      · rintro y hy
        obtain rfl : y = 0 := by omega
        · try simp (maxSteps := 9999999) only [go_sem]
          refine CondW_dec (fun hA => ?_) (fun hA => absurd (by rw [h0', hl]; decide) hA)
          have c1 := within_fn (ni st 0) 0 (nth (t := tTour) l 0).2.2.length
          rw [decide_eq_false v0] at c1
          try simp (maxSteps := 9999999) only [go_sem]
          repeat refine And.intro (by first|omega|(constructor<;>omega)|kernel_rfl) ?_
          refine CallW.mk (c1) ?_
          try simp (maxSteps := 9999999) only [go_sem]
          all_goals first | kernel_rfl | omega | rfl
    by_cases v1 : 0 ≤ ni st 1 ∧ ni st 1 ≤ (nth (t := tTour) l 1).2.2.length
    rotate_left
    · refine ⟨(ni st 0, (0 : Int), (0 : Int)), ?_⟩
      refine fn_enter tabOK mixes Tryz.func65 rfl rfl _ Tryz.ntmps65 _ Tryz.results65 (by simp) fun hwf => ?_
      try simp (maxSteps := 9999999) only [go_sem]
      try simp (maxSteps := 9999999) only [go_sem, d0]
      refine LoopG.intro _ _ _ (fun y : Nat => match y with | 0 => ⟨[(0, .ref tPlanner (plD2 l) 0), (1, .sl .int st), (4, .ptr 0 0), (5, .sc (.bool false)), (6, .ptr 1 0), (19, .sl .int st), (20, .sc (.int .i64 st.length)), (21, .sc (.int .i64 0))], [(0, .box [.sc (.int .i64 0), .sc (.int .i64 0), .sc (.int .i64 0)]), (1, .box [.sc (.int .i64 0), .sc (.int .i64 0), .sc (.int .i64 0)])]⟩ | _ => ⟨[(0, .ref tPlanner (plD2 l) 0), (1, .sl .int st), (4, .ptr 0 0), (5, .sc (.bool false)), (6, .ptr 1 0), (19, .sl .int st), (20, .sc (.int .i64 st.length)), (21, .sc (.int .i64 1))], [(0, .box [.sc (.int .i64 0), .sc (.int .i64 0), .sc (.int .i64 0)]), (1, .box [.sc (.int .i64 (ni st 0)), .sc (.int .i64 0), .sc (.int .i64 0)])]⟩) (fun y => y ≤ 1) (fun y => 1 - y) 0 ?_ (Nat.zero_le _) ?_
      · refine Wk.mk [] ?_
        try simp (maxSteps := 9999999) only [go_sem]
      · rintro y hy
        obtain rfl | rfl : y = 0 ∨ y = 1 := by omega
        · try simp (maxSteps := 9999999) only [go_sem]
          refine CondW_dec (fun hA => ?_) (fun hA => absurd (by rw [h0', hl]; decide) hA)
          have c1 := within_fn (ni st 0) 0 (nth (t := tTour) l 0).2.2.length
          rw [decide_eq_true v0] at c1
          try simp (maxSteps := 9999999) only [go_sem]
          repeat refine And.intro (by first|omega|(constructor<;>omega)|kernel_rfl) ?_
          refine CallW.mk (c1) ?_
          try simp (maxSteps := 9999999) only [go_sem]
          repeat refine And.intro (by first|omega|(constructor<;>omega)|kernel_rfl) ?_
          refine LoopK.mk 1 ?_ (by omega) (by omega)
          refine Wk.mk [] ?_
          try simp (maxSteps := 9999999) only [go_sem]
          try (and_intros <;> first | rfl | omega | exact ⟨_, rfl⟩)
        · try simp (maxSteps := 9999999) only [go_sem]
          refine CondW_dec (fun hA => ?_) (fun hA => absurd (by rw [h0', hl]; decide) hA)
          have c1 := within_fn (ni st 1) 0 (nth (t := tTour) l 1).2.2.length
          rw [decide_eq_false v1] at c1
          try simp (maxSteps := 9999999) only [go_sem]
          repeat refine And.intro (by first|omega|(constructor<;>omega)|kernel_rfl) ?_
          refine CallW.mk (c1) ?_
          try simp (maxSteps := 9999999) only [go_sem]
          all_goals first | kernel_rfl | omega | rfl
    exact absurd ⟨h0', fun i hi => by
      rw [h0', hl] at hi
      obtain rfl | rfl : i = 0 ∨ i = 1 := by omega
      · exact v0
      · exact v1⟩ hst
  · have d0 := decide_eq_false h0
    refine ⟨((0 : Int), (0 : Int), (0 : Int)), ?_⟩
    refine fn_enter tabOK mixes Tryz.func65 rfl rfl _ Tryz.ntmps65 _ Tryz.results65 (by simp) fun hwf => ?_
    try simp (maxSteps := 9999999) only [go_sem]
    try simp (maxSteps := 9999999) only [go_sem, d0]
    all_goals first | kernel_rfl | omega | rfl
set_option maxRecDepth 100000 in
set_option maxHeartbeats 4000000 in
theorem advance_fn20 (l : List DT) (hl : l.length = 2) (st : List Int) (har : arP l) (hst : stP l st) : Fn Tryz.prog 66 [⟨.ext .ref tPlanner, some (plD2 l)⟩, ⟨tState, (ni st 0, ni st 1, (0 : Int))⟩, ⟨.int, 0⟩] false [⟨tState, bif bdec (frP l st 0) then (ni st 0 + 1, ni st 1, (0 : Int)) else (ni st 0, ni st 1, (0 : Int))⟩, ⟨.bool, bdec (frP l st 0)⟩] := by
  have hr0 := (har 0 (by rw [hl]; decide)).1
  have v0 := hst.2 0 (by rw [hst.1, hl]; decide)
  unfold stAt at v0
  have v1 := hst.2 1 (by rw [hst.1, hl]; decide)
  unfold stAt at v1
  have hr1 := (har 1 (by rw [hl]; decide)).1
  have hs8 := (tour_parts hr0).2.2.2.1
  by_cases h0 : ni st 0 = (nth (t := tTour) l 0).2.2.length
  · have d0 := decide_eq_true h0
    rw [bdec_f fun h => h.1 h0, cond_false]
    refine fn_enter tabOK mixes Tryz.func66 rfl rfl _ Tryz.ntmps66 _ Tryz.results66 (by simp) fun hwf => ?_
    try simp (maxSteps := 9999999) only [go_sem]
    repeat refine And.intro (by first|omega|(constructor<;>omega)|kernel_rfl) ?_
    try simp (maxSteps := 9999999) only [go_sem, d0]
    all_goals first | kernel_rfl | omega | rfl
  · have d0 := decide_eq_false h0
    have ta1 := tab_len hr0 hr1
    have tb1 := tab_nlen hr0 hr1 v0.1 (by omega)
    have tc1 := tab_get hr0 hr1 v0.1 (by omega) v1.1 v1.2
    refine fn_enter tabOK mixes Tryz.func66 rfl rfl _ Tryz.ntmps66 _ Tryz.results66 (by simp) fun hwf => ?_
    try simp (maxSteps := 9999999) only [go_sem]
    repeat refine And.intro (by first|omega|(constructor<;>omega)|kernel_rfl) ?_
    try simp (maxSteps := 9999999) only [go_sem, d0]
    refine LoopG.intro _ _ _ (fun y : Nat => match y with | 0 => ⟨[(0, .ref tPlanner (plD2 l) 0), (2, .sc (.int .i64 0)), (4, .ptr 0 0), (6, .ptr 1 0), (7, .sc (.bool false)), (27, .sc (.int .i64 l.length)), (28, .sc (.int .i64 0))], [(0, .box [.sc (.int .i64 (ni st 0)), .sc (.int .i64 (ni st 1)), .sc (.int .i64 0)]), (1, .box [.sc (.int .i64 0), .sc (.int .i64 0), .sc (.int .i64 0)])]⟩ | 1 => ⟨[(0, .ref tPlanner (plD2 l) 0), (2, .sc (.int .i64 0)), (4, .ptr 0 0), (6, .ptr 1 0), (7, .sc (.bool false)), (27, .sc (.int .i64 l.length)), (28, .sc (.int .i64 1))], [(0, .box [.sc (.int .i64 (ni st 0)), .sc (.int .i64 (ni st 1)), .sc (.int .i64 0)]), (1, .box [.sc (.int .i64 0), .sc (.int .i64 0), .sc (.int .i64 0)])]⟩ | _ => ⟨[(0, .ref tPlanner (plD2 l) 0), (2, .sc (.int .i64 0)), (4, .ptr 0 0), (6, .ptr 1 0), (7, .sc (.bool false)), (27, .sc (.int .i64 l.length)), (28, .sc (.int .i64 2))], [(0, .box [.sc (.int .i64 (ni st 0)), .sc (.int .i64 (ni st 1)), .sc (.int .i64 0)]), (1, .box [.sc (.int .i64 0), .sc (.int .i64 0), .sc (.int .i64 0)])]⟩) (fun y => y ≤ 2 ∧ ∀ i, i < y → frAt l st 0 i) (fun y => 2 - y) 0 ?_ ⟨Nat.zero_le _, fun i h => absurd h (Nat.not_lt_zero _)⟩ ?_
    · refine Wk.mk [] ?_
      try simp (maxSteps := 9999999) only [go_sem]
    · rintro y ⟨hy, hall⟩
      obtain rfl | rfl | rfl : y = 0 ∨ y = 1 ∨ y = 2 := by omega
      · try simp (maxSteps := 9999999) only [go_sem]
        refine CondW_dec (fun hA => ?_) (fun hA => absurd (by rw [hl]; decide) hA)
        try simp (maxSteps := 9999999) only [go_sem]
        repeat refine And.intro (by first|omega|(constructor<;>omega)|kernel_rfl) ?_
        refine LoopK.mk 1 ?_ ⟨by omega, fun i hi => ?_⟩ (by omega)
        · refine Wk.mk [] ?_
          try simp (maxSteps := 9999999) only [go_sem]
          try (and_intros <;> first | rfl | omega | exact ⟨_, rfl⟩)
        · by_cases h : i < 0
          · exact hall i h
          · intro hne; omega
      · try simp (maxSteps := 9999999) only [go_sem]
        refine CondW_dec (fun hA => ?_) (fun hA => absurd (by rw [hl]; decide) hA)
        cases hs : stpTB (nth (t := tTour) l 0) (ni st 0) (nth (t := tTour) l 1) (ni st 1) <;> rw [hs] at tc1
        · try simp (maxSteps := 9999999) only [go_sem, ta1, tb1]
          repeat refine And.intro (by first|omega|(constructor<;>omega)|kernel_rfl) ?_
          try simp (maxSteps := 9999999) only [go_sem, ta1, tb1, tc1]
          repeat refine And.intro (by first|omega|(constructor<;>omega)|kernel_rfl) ?_
          refine LoopK.mk 2 ?_ ⟨by omega, fun i hi => ?_⟩ (by omega)
          · refine Wk.mk [] ?_
            try simp (maxSteps := 9999999) only [go_sem]
            try (and_intros <;> first | rfl | omega | exact ⟨_, rfl⟩)
          · by_cases h : i < 1
            · exact hall i h
            · rw [show i = 1 by omega]; exact fun _ => hs
        · rw [bdec_f (fun h => by have := h.2 1 (by rw [hl]; decide) (by decide); rw [hs] at this; cases this), cond_false]
          try simp (maxSteps := 9999999) only [go_sem, ta1, tb1]
          repeat refine And.intro (by first|omega|(constructor<;>omega)|kernel_rfl) ?_
          try simp (maxSteps := 9999999) only [go_sem, ta1, tb1, tc1]
          all_goals first | kernel_rfl | omega | rfl
      · try simp (maxSteps := 9999999) only [go_sem]
        refine CondW_dec (fun hA => by rw [hl] at hA; exact absurd hA (by decide)) (fun hA => ?_)
        rw [bdec_t ⟨h0, fun j hj => hall j (by omega)⟩, cond_true]
        try simp (maxSteps := 9999999) only [go_sem]
        repeat refine And.intro (by first|omega|(constructor<;>omega)|kernel_rfl) ?_
        all_goals first | kernel_rfl | omega | rfl
set_option maxRecDepth 100000 in
set_option maxHeartbeats 4000000 in
theorem advance_fn21 (l : List DT) (hl : l.length = 2) (st : List Int) (har : arP l) (hst : stP l st) : Fn Tryz.prog 66 [⟨.ext .ref tPlanner, some (plD2 l)⟩, ⟨tState, (ni st 0, ni st 1, (0 : Int))⟩, ⟨.int, 1⟩] false [⟨tState, bif bdec (frP l st 1) then (ni st 0, ni st 1 + 1, (0 : Int)) else (ni st 0, ni st 1, (0 : Int))⟩, ⟨.bool, bdec (frP l st 1)⟩] := by
  have hr1 := (har 1 (by rw [hl]; decide)).1
  have v0 := hst.2 0 (by rw [hst.1, hl]; decide)
  unfold stAt at v0
  have hr0 := (har 0 (by rw [hl]; decide)).1
  have v1 := hst.2 1 (by rw [hst.1, hl]; decide)
  unfold stAt at v1
  have hs8 := (tour_parts hr1).2.2.2.1
  by_cases h0 : ni st 1 = (nth (t := tTour) l 1).2.2.length
  · have d0 := decide_eq_true h0
    rw [bdec_f fun h => h.1 h0, cond_false]
    refine fn_enter tabOK mixes Tryz.func66 rfl rfl _ Tryz.ntmps66 _ Tryz.results66 (by simp) fun hwf => ?_
    try simp (maxSteps := 9999999) only [go_sem]
    repeat refine And.intro (by first|omega|(constructor<;>omega)|kernel_rfl) ?_
    try simp (maxSteps := 9999999) only [go_sem, d0]
    all_goals first | kernel_rfl | omega | rfl
  · have d0 := decide_eq_false h0
    have ta0 := tab_len hr1 hr0
    have tb0 := tab_nlen hr1 hr0 v1.1 (by omega)
    have tc0 := tab_get hr1 hr0 v1.1 (by omega) v0.1 v0.2
    refine fn_enter tabOK mixes Tryz.func66 rfl rfl _ Tryz.ntmps66 _ Tryz.results66 (by simp) fun hwf => ?_
    try simp (maxSteps := 9999999) only [go_sem]
    repeat refine And.intro (by first|omega|(constructor<;>omega)|kernel_rfl) ?_
    try simp (maxSteps := 9999999) only [go_sem, d0]
    refine LoopG.intro _ _ _ (fun y : Nat => match y with | 0 => ⟨[(0, .ref tPlanner (plD2 l) 0), (2, .sc (.int .i64 1)), (4, .ptr 0 0), (6, .ptr 1 0), (7, .sc (.bool false)), (27, .sc (.int .i64 l.length)), (28, .sc (.int .i64 0))], [(0, .box [.sc (.int .i64 (ni st 0)), .sc (.int .i64 (ni st 1)), .sc (.int .i64 0)]), (1, .box [.sc (.int .i64 0), .sc (.int .i64 0), .sc (.int .i64 0)])]⟩ | 1 => ⟨[(0, .ref tPlanner (plD2 l) 0), (2, .sc (.int .i64 1)), (4, .ptr 0 0), (6, .ptr 1 0), (7, .sc (.bool false)), (27, .sc (.int .i64 l.length)), (28, .sc (.int .i64 1))], [(0, .box [.sc (.int .i64 (ni st 0)), .sc (.int .i64 (ni st 1)), .sc (.int .i64 0)]), (1, .box [.sc (.int .i64 0), .sc (.int .i64 0), .sc (.int .i64 0)])]⟩ | _ => ⟨[(0, .ref tPlanner (plD2 l) 0), (2, .sc (.int .i64 1)), (4, .ptr 0 0), (6, .ptr 1 0), (7, .sc (.bool false)), (27, .sc (.int .i64 l.length)), (28, .sc (.int .i64 2))], [(0, .box [.sc (.int .i64 (ni st 0)), .sc (.int .i64 (ni st 1)), .sc (.int .i64 0)]), (1, .box [.sc (.int .i64 0), .sc (.int .i64 0), .sc (.int .i64 0)])]⟩) (fun y => y ≤ 2 ∧ ∀ i, i < y → frAt l st 1 i) (fun y => 2 - y) 0 ?_ ⟨Nat.zero_le _, fun i h => absurd h (Nat.not_lt_zero _)⟩ ?_
    · refine Wk.mk [] ?_
      try simp (maxSteps := 9999999) only [go_sem]
    · rintro y ⟨hy, hall⟩
      obtain rfl | rfl | rfl : y = 0 ∨ y = 1 ∨ y = 2 := by omega
      · try simp (maxSteps := 9999999) only [go_sem]
        refine CondW_dec (fun hA => ?_) (fun hA => absurd (by rw [hl]; decide) hA)
        cases hs : stpTB (nth (t := tTour) l 1) (ni st 1) (nth (t := tTour) l 0) (ni st 0) <;> rw [hs] at tc0
        · try simp (maxSteps := 9999999) only [go_sem, ta0, tb0]
          repeat refine And.intro (by first|omega|(constructor<;>omega)|kernel_rfl) ?_
          try simp (maxSteps := 9999999) only [go_sem, ta0, tb0, tc0]
          repeat refine And.intro (by first|omega|(constructor<;>omega)|kernel_rfl) ?_
          refine LoopK.mk 1 ?_ ⟨by omega, fun i hi => ?_⟩ (by omega)
          · refine Wk.mk [] ?_
            try simp (maxSteps := 9999999) only [go_sem]
            try (and_intros <;> first | rfl | omega | exact ⟨_, rfl⟩)
          · by_cases h : i < 0
            · exact hall i h
            · rw [show i = 0 by omega]; exact fun _ => hs
        · rw [bdec_f (fun h => by have := h.2 0 (by rw [hl]; decide) (by decide); rw [hs] at this; cases this), cond_false]
          try simp (maxSteps := 9999999) only [go_sem, ta0, tb0]
          repeat refine And.intro (by first|omega|(constructor<;>omega)|kernel_rfl) ?_
          try simp (maxSteps := 9999999) only [go_sem, ta0, tb0, tc0]
          all_goals first | kernel_rfl | omega | rfl
      · try simp (maxSteps := 9999999) only [go_sem]
        refine CondW_dec (fun hA => ?_) (fun hA => absurd (by rw [hl]; decide) hA)
        try simp (maxSteps := 9999999) only [go_sem]
        repeat refine And.intro (by first|omega|(constructor<;>omega)|kernel_rfl) ?_
        refine LoopK.mk 2 ?_ ⟨by omega, fun i hi => ?_⟩ (by omega)
        · refine Wk.mk [] ?_
          try simp (maxSteps := 9999999) only [go_sem]
          try (and_intros <;> first | rfl | omega | exact ⟨_, rfl⟩)
        · by_cases h : i < 1
          · exact hall i h
          · intro hne; omega
      · try simp (maxSteps := 9999999) only [go_sem]
        refine CondW_dec (fun hA => by rw [hl] at hA; exact absurd hA (by decide)) (fun hA => ?_)
        rw [bdec_t ⟨h0, fun j hj => hall j (by omega)⟩, cond_true]
        try simp (maxSteps := 9999999) only [go_sem]
        repeat refine And.intro (by first|omega|(constructor<;>omega)|kernel_rfl) ?_
        all_goals first | kernel_rfl | omega | rfl
set_option maxRecDepth 100000 in
set_option maxHeartbeats 4000000 in
theorem stateOf_fn3 (l : List DT) (hl : l.length = 3) (st : List Int) (hst : stP l st) : Fn Tryz.prog 65 [⟨.ext .ref tPlanner, some (plD3 l)⟩, ⟨tInts, st⟩] false [⟨tState, (ni st 0, ni st 1, ni st 2)⟩, ⟨.bool, true⟩] := by
  have h0 : (st.length : Int) = l.length := by rw [hst.1]
  have h0' := hst.1
  have d0 := decide_eq_true h0
  have v0 := hst.2 0 (by rw [hst.1, hl]; decide)
  unfold stAt at v0
  have v1 := hst.2 1 (by rw [hst.1, hl]; decide)
  unfold stAt at v1
  have v2 := hst.2 2 (by rw [hst.1, hl]; decide)
  unfold stAt at v2
  refine fn_enter tabOK mixes Tryz.func65 rfl rfl _ Tryz.ntmps65 _ Tryz.results65 (by simp) fun hwf => ?_
  try simp (maxSteps := 9999999) only [go_sem]
  try simp (maxSteps := 9999999) only [go_sem, d0]
  refine LoopG.intro _ _ _ (fun y : Nat => match y with | 0 => ⟨[(0, .ref tPlanner (plD3 l) 0), (1, .sl .int st), (4, .ptr 0 0), (5, .sc (.bool false)), (6, .ptr 1 0), (19, .sl .int st), (20, .sc (.int .i64 st.length)), (21, .sc (.int .i64 0))], [(0, .box [.sc (.int .i64 0), .sc (.int .i64 0), .sc (.int .i64 0)]), (1, .box [.sc (.int .i64 0), .sc (.int .i64 0), .sc (.int .i64 0)])]⟩ | 1 => ⟨[(0, .ref tPlanner (plD3 l) 0), (1, .sl .int st), (4, .ptr 0 0), (5, .sc (.bool false)), (6, .ptr 1 0), (19, .sl .int st), (20, .sc (.int .i64 st.length)), (21, .sc (.int .i64 1))], [(0, .box [.sc (.int .i64 0), .sc (.int .i64 0), .sc (.int .i64 0)]), (1, .box [.sc (.int .i64 (ni st 0)), .sc (.int .i64 0), .sc (.int .i64 0)])]⟩ | 2 => ⟨[(0, .ref tPlanner (plD3 l) 0), (1, .sl .int st), (4, .ptr 0 0), (5, .sc (.bool false)), (6, .ptr 1 0), (19, .sl .int st), (20, .sc (.int .i64 st.length)), (21, .sc (.int .i64 2))], [(0, .box [.sc (.int .i64 0), .sc (.int .i64 0), .sc (.int .i64 0)]), (1, .box [.sc (.int .i64 (ni st 0)), .sc (.int .i64 (ni st 1)), .sc (.int .i64 0)])]⟩ | _ => ⟨[(0, .ref tPlanner (plD3 l) 0), (1, .sl .int st), (4, .ptr 0 0), (5, .sc (.bool false)), (6, .ptr 1 0), (19, .sl .int st), (20, .sc (.int .i64 st.length)), (21, .sc (.int .i64 3))], [(0, .box [.sc (.int .i64 0), .sc (.int .i64 0), .sc (.int .i64 0)]), (1, .box [.sc (.int .i64 (ni st 0)), .sc (.int .i64 (ni st 1)), .sc (.int .i64 (ni st 2))])]⟩) (fun y => y ≤ 3) (fun y => 3 - y) 0 ?_ (Nat.zero_le _) ?_
  · refine Wk.mk [] ?_
    try simp (maxSteps := 9999999) only [go_sem]
  · rintro y hy
    obtain rfl | rfl | rfl | rfl : y = 0 ∨ y = 1 ∨ y = 2 ∨ y = 3 := by omega
    · try simp (maxSteps := 9999999) only [go_sem]
      refine CondW_dec (fun hA => ?_) (fun hA => absurd (by rw [h0', hl]; decide) hA)
      have c1 := within_fn (ni st 0) 0 (nth (t := tTour) l 0).2.2.length
      rw [decide_eq_true v0] at c1
      try simp (maxSteps := 9999999) only [go_sem]
      repeat refine And.intro (by first|omega|(constructor<;>omega)|kernel_rfl) ?_
      refine CallW.mk (c1) ?_
      try simp (maxSteps := 9999999) only [go_sem]
      repeat refine And.intro (by first|omega|(constructor<;>omega)|kernel_rfl) ?_
      refine LoopK.mk 1 ?_ (by omega) (by omega)
      refine Wk.mk [] ?_
      try simp (maxSteps := 9999999) only [go_sem]
      try (and_intros <;> first | rfl | omega | exact ⟨_, rfl⟩)
    · try simp (maxSteps := 9999999) only [go_sem]
      refine CondW_dec (fun hA => ?_) (fun hA => absurd (by rw [h0', hl]; decide) hA)
      have c1 := within_fn (ni st 1) 0 (nth (t := tTour) l 1).2.2.length
      rw [decide_eq_true v1] at c1
      try simp (maxSteps := 9999999) only [go_sem]
      repeat refine And.intro (by first|omega|(constructor<;>omega)|kernel_rfl) ?_
      refine CallW.mk (c1) ?_
      try simp (maxSteps := 9999999) only [go_sem]
      repeat refine And.intro (by first|omega|(constructor<;>omega)|kernel_rfl) ?_
      refine LoopK.mk 2 ?_ (by omega) (by omega)
      refine Wk.mk [] ?_
      try simp (maxSteps := 9999999) only [go_sem]
      try (and_intros <;> first | rfl | omega | exact ⟨_, rfl⟩)
    · try simp (maxSteps := 9999999) only [go_sem]
      refine CondW_dec (fun hA => ?_) (fun hA => absurd (by rw [h0', hl]; decide) hA)
      have c1 := within_fn (ni st 2) 0 (nth (t := tTour) l 2).2.2.length
      rw [decide_eq_true v2] at c1
      try simp (maxSteps := 9999999) only [go_sem]
      repeat refine And.intro (by first|omega|(constructor<;>omega)|kernel_rfl) ?_
      refine CallW.mk (c1) ?_
      try simp (maxSteps := 9999999) only [go_sem]
      repeat refine And.intro (by first|omega|(constructor<;>omega)|kernel_rfl) ?_
      refine LoopK.mk 3 ?_ (by omega) (by omega)
      refine Wk.mk [] ?_
      try simp (maxSteps := 9999999) only [go_sem]
      try (and_intros <;> first | rfl | omega | exact ⟨_, rfl⟩)
    · try simp (maxSteps := 9999999) only [go_sem]
      refine CondW_dec (fun hA => by rw [h0', hl] at hA; exact absurd hA (by decide)) (fun hA => ?_)
      try simp (maxSteps := 9999999) only [go_sem]
      all_goals first | kernel_rfl | omega | rfl
set_option maxRecDepth 100000 in
set_option maxHeartbeats 4000000 in
theorem stateOf_bad3 (l : List DT) (hl : l.length = 3) (st : List Int) (hst : ¬ stP l st) : ∃ s : Int × Int × Int, Fn Tryz.prog 65 [⟨.ext .ref tPlanner, some (plD3 l)⟩, ⟨tInts, st⟩] false [⟨tState, s⟩, ⟨.bool, false⟩] := by
  by_cases h0 : (st.length : Int) = l.length
  · have h0' : st.length = l.length := by omega
    have d0 := decide_eq_true h0
    by_cases v0 : 0 ≤ ni st 0 ∧ ni st 0 ≤ (nth (t := tTour) l 0).2.2.length
    rotate_left
    · refine ⟨((0 : Int), (0 : Int), (0 : Int)), ?_⟩
      refine fn_enter tabOK mixes Tryz.func65 rfl rfl _ Tryz.ntmps65 _ Tryz.results65 (by simp) fun hwf => ?_
      try simp (maxSteps := 9999999) only [go_sem]
      try simp (maxSteps := 9999999) only [go_sem, d0]
      refine LoopG.intro _ _ _ (fun _ : Nat => ⟨[(0, .ref tPlanner (plD3 l) 0), (1, .sl .int st), (4, .ptr 0 0), (5, .sc (.bool false)), (6, .ptr 1 0), (19, .sl .int st), (20, .sc (.int .i64 st.length)), (21, .sc (.int .i64 0))], [(0, .box [.sc (.int .i64 0), .sc (.int .i64 0), .sc (.int .i64 0)]), (1, .box [.sc (.int .i64 0), .sc (.int .i64 0), .sc (.int .i64 0)])]⟩) (fun y => y ≤ 0) (fun y => 0 - y) 0 ?_ (Nat.zero_le _) ?_
      · refine Wk.mk [] ?_
        try simp (maxSteps := 9999999) only [go_sem]
      · rintro y hy
        obtain rfl : y = 0 := by omega
        · try simp (maxSteps := 9999999) only [go_sem]
          refine CondW_dec (fun hA => ?_) (fun hA => absurd (by rw [h0', hl]; decide) hA)
          have c1 := within_fn (ni st 0) 0 (nth (t := tTour) l 0).2.2.length
          rw [decide_eq_false v0] at c1
          try simp (maxSteps := 9999999) only [go_sem]
          repeat refine And.intro (by first|omega|(constructor<;>omega)|kernel_rfl) ?_
          refine CallW.mk (c1) ?_
          try simp (maxSteps := 9999999) only [go_sem]
          all_goals first | kernel_rfl | omega | rfl
    by_cases v1 : 0 ≤ ni st 1 ∧ ni st 1 ≤ (nth (t := tTour) l 1).2.2.length
    rotate_left
    · refine ⟨(ni st 0, (0 : Int), (0 : Int)), ?_⟩
      refine fn_enter tabOK mixes Tryz.func65 rfl rfl _ Tryz.ntmps65 _ Tryz.results65 (by simp) fun hwf => ?_
      try simp (maxSteps := 9999999) only [go_sem]
      try simp (maxSteps := 9999999) only [go_sem, d0]
      refine LoopG.intro _ _ _ (fun y : Nat => match y with | 0 => ⟨[(0, .ref tPlanner (plD3 l) 0), (1, .sl .int st), (4, .ptr 0 0), (5, .sc (.bool false)), (6, .ptr 1 0), (19, .sl .int st), (20, .sc (.int .i64 st.length)), (21, .sc (.int .i64 0))], [(0, .box [.sc (.int .i64 0), .sc (.int .i64 0), .sc (.int .i64 0)]), (1, .box [.sc (.int .i64 0), .sc (.int .i64 0), .sc (.int .i64 0)])]⟩ | _ => ⟨[(0, .ref tPlanner (plD3 l) 0), (1, .sl .int st), (4, .ptr 0 0), (5, .sc (.bool false)), (6, .ptr 1 0), (19, .sl .int st), (20, .sc (.int .i64 st.length)), (21, .sc (.int .i64 1))], [(0, .box [.sc (.int .i64 0), .sc (.int .i64 0), .sc (.int .i64 0)]), (1, .box [.sc (.int .i64 (ni st 0)), .sc (.int .i64 0), .sc (.int .i64 0)])]⟩) (fun y => y ≤ 1) (fun y => 1 - y) 0 ?_ (Nat.zero_le _) ?_
      · refine Wk.mk [] ?_
        try simp (maxSteps := 9999999) only [go_sem]
      · rintro y hy
        obtain rfl | rfl : y = 0 ∨ y = 1 := by omega
        · try simp (maxSteps := 9999999) only [go_sem]
          refine CondW_dec (fun hA => ?_) (fun hA => absurd (by rw [h0', hl]; decide) hA)
          have c1 := within_fn (ni st 0) 0 (nth (t := tTour) l 0).2.2.length
          rw [decide_eq_true v0] at c1
          try simp (maxSteps := 9999999) only [go_sem]
          repeat refine And.intro (by first|omega|(constructor<;>omega)|kernel_rfl) ?_
          refine CallW.mk (c1) ?_
          try simp (maxSteps := 9999999) only [go_sem]
          repeat refine And.intro (by first|omega|(constructor<;>omega)|kernel_rfl) ?_
          refine LoopK.mk 1 ?_ (by omega) (by omega)
          refine Wk.mk [] ?_
          try simp (maxSteps := 9999999) only [go_sem]
          try (and_intros <;> first | rfl | omega | exact ⟨_, rfl⟩)
        · try simp (maxSteps := 9999999) only [go_sem]
          refine CondW_dec (fun hA => ?_) (fun hA => absurd (by rw [h0', hl]; decide) hA)
          have c1 := within_fn (ni st 1) 0 (nth (t := tTour) l 1).2.2.length
          rw [decide_eq_false v1] at c1
          try simp (maxSteps := 9999999) only [go_sem]
          repeat refine And.intro (by first|omega|(constructor<;>omega)|kernel_rfl) ?_
          refine CallW.mk (c1) ?_
          try simp (maxSteps := 9999999) only [go_sem]
          all_goals first | kernel_rfl | omega | rfl
    by_cases v2 : 0 ≤ ni st 2 ∧ ni st 2 ≤ (nth (t := tTour) l 2).2.2.length
    rotate_left
    · refine ⟨(ni st 0, ni st 1, (0 : Int)), ?_⟩
      refine fn_enter tabOK mixes Tryz.func65 rfl rfl _ Tryz.ntmps65 _ Tryz.results65 (by simp) fun hwf => ?_
      try simp (maxSteps := 9999999) only [go_sem]
      try simp (maxSteps := 9999999) only [go_sem, d0]
      refine LoopG.intro _ _ _ (fun y : Nat => match y with | 0 => ⟨[(0, .ref tPlanner (plD3 l) 0), (1, .sl .int st), (4, .ptr 0 0), (5, .sc (.bool false)), (6, .ptr 1 0), (19, .sl .int st), (20, .sc (.int .i64 st.length)), (21, .sc (.int .i64 0))], [(0, .box [.sc (.int .i64 0), .sc (.int .i64 0), .sc (.int .i64 0)]), (1, .box [.sc (.int .i64 0), .sc (.int .i64 0), .sc (.int .i64 0)])]⟩ | 1 => ⟨[(0, .ref tPlanner (plD3 l) 0), (1, .sl .int st), (4, .ptr 0 0), (5, .sc (.bool false)), (6, .ptr 1 0), (19, .sl .int st), (20, .sc (.int .i64 st.length)), (21, .sc (.int .i64 1))], [(0, .box [.sc (.int .i64 0), .sc (.int .i64 0), .sc (.int .i64 0)]), (1, .box [.sc (.int .i64 (ni st 0)), .sc (.int .i64 0), .sc (.int .i64 0)])]⟩ | _ => ⟨[(0, .ref tPlanner (plD3 l) 0), (1, .sl .int st), (4, .ptr 0 0), (5, .sc (.bool false)), (6, .ptr 1 0), (19, .sl .int st), (20, .sc (.int .i64 st.length)), (21, .sc (.int .i64 2))], [(0, .box [.sc (.int .i64 0), .sc (.int .i64 0), .sc (.int .i64 0)]), (1, .box [.sc (.int .i64 (ni st 0)), .sc (.int .i64 (ni st 1)), .sc (.int .i64 0)])]⟩) (fun y => y ≤ 2) (fun y => 2 - y) 0 ?_ (Nat.zero_le _) ?_
      · refine Wk.mk [] ?_
        try simp (maxSteps := 9999999) only [go_sem]
      · rintro y hy
        obtain rfl | rfl | rfl : y = 0 ∨ y = 1 ∨ y = 2 := by omega
        · try simp (maxSteps := 9999999) only [go_sem]
          refine CondW_dec (fun hA => ?_) (fun hA => absurd (by rw [h0', hl]; decide) hA)
          have c1 := within_fn (ni st 0) 0 (nth (t := tTour) l 0).2.2.length
          rw [decide_eq_true v0] at c1
          try simp (maxSteps := 9999999) only [go_sem]
          repeat refine And.intro (by first|omega|(constructor<;>omega)|kernel_rfl) ?_
          refine CallW.mk (c1) ?_
          try simp (maxSteps := 9999999) only [go_sem]
          repeat refine And.intro (by first|omega|(constructor<;>omega)|kernel_rfl) ?_
          refine LoopK.mk 1 ?_ (by omega) (by omega)
          refine Wk.mk [] ?_
          try simp (maxSteps := 9999999) only [go_sem]
          try (and_intros <;> first | rfl | omega | exact ⟨_, rfl⟩)
        · try simp (maxSteps := 9999999) only [go_sem]
          refine CondW_dec (fun hA => ?_) (fun hA => absurd (by rw [h0', hl]; decide) hA)
          have c1 := within_fn (ni st 1) 0 (nth (t := tTour) l 1).2.2.length
          rw [decide_eq_true v1] at c1
          try simp (maxSteps := 9999999) only [go_sem]
          repeat refine And.intro (by first|omega|(constructor<;>omega)|kernel_rfl) ?_
          refine CallW.mk (c1) ?_
          try simp (maxSteps := 9999999) only [go_sem]
          repeat refine And.intro (by first|omega|(constructor<;>omega)|kernel_rfl) ?_
          refine LoopK.mk 2 ?_ (by omega) (by omega)
          refine Wk.mk [] ?_
          try simp (maxSteps := 9999999) only [go_sem]
          try (and_intros <;> first | rfl | omega | exact ⟨_, rfl⟩)
        · try simp (maxSteps := 9999999) only [go_sem]
          refine CondW_dec (fun hA => ?_) (fun hA => absurd (by rw [h0', hl]; decide) hA)
          have c1 := within_fn (ni st 2) 0 (nth (t := tTour) l 2).2.2.length
          rw [decide_eq_false v2] at c1
          try simp (maxSteps := 9999999) only [go_sem]
          repeat refine And.intro (by first|omega|(constructor<;>omega)|kernel_rfl) ?_
          refine CallW.mk (c1) ?_
          try simp (maxSteps := 9999999) only [go_sem]
          all_goals first | kernel_rfl | omega | rfl
    exact absurd ⟨h0', fun i hi => by
      rw [h0', hl] at hi
      obtain rfl | rfl | rfl : i = 0 ∨ i = 1 ∨ i = 2 := by omega
      · exact v0
      · exact v1
      · exact v2⟩ hst
  · have d0 := decide_eq_false h0
    refine ⟨((0 : Int), (0 : Int), (0 : Int)), ?_⟩
    refine fn_enter tabOK mixes Tryz.func65 rfl rfl _ Tryz.ntmps65 _ Tryz.results65 (by simp) fun hwf => ?_
    try simp (maxSteps := 9999999) only [go_sem]
    try simp (maxSteps := 9999999) only [go_sem, d0]
    all_goals first | kernel_rfl | omega | rfl
set_option maxRecDepth 100000 in
set_option maxHeartbeats 4000000 in
theorem advance_fn30 (l : List DT) (hl : l.length = 3) (st : List Int) (har : arP l) (hst : stP l st) : Fn Tryz.prog 66 [⟨.ext .ref tPlanner, some (plD3 l)⟩, ⟨tState, (ni st 0, ni st 1, ni st 2)⟩, ⟨.int, 0⟩] false [⟨tState, bif bdec (frP l st 0) then (ni st 0 + 1, ni st 1, ni st 2) else (ni st 0, ni st 1, ni st 2)⟩, ⟨.bool, bdec (frP l st 0)⟩] := by
  have hr0 := (har 0 (by rw [hl]; decide)).1
  have v0 := hst.2 0 (by rw [hst.1, hl]; decide)
  unfold stAt at v0
  have v1 := hst.2 1 (by rw [hst.1, hl]; decide)
  unfold stAt at v1
  have hr1 := (har 1 (by rw [hl]; decide)).1
  have v2 := hst.2 2 (by rw [hst.1, hl]; decide)
  unfold stAt at v2
  have hr2 := (har 2 (by rw [hl]; decide)).1
  have hs8 := (tour_parts hr0).2.2.2.1
  by_cases h0 : ni st 0 = (nth (t := tTour) l 0).2.2.length
  · have d0 := decide_eq_true h0
    rw [bdec_f fun h => h.1 h0, cond_false]
    refine fn_enter tabOK mixes Tryz.func66 rfl rfl _ Tryz.ntmps66 _ Tryz.results66 (by simp) fun hwf => ?_
    try simp (maxSteps := 9999999) only [go_sem]
    repeat refine And.intro (by first|omega|(constructor<;>omega)|kernel_rfl) ?_
    try simp (maxSteps := 9999999) only [go_sem, d0]
    all_goals first | kernel_rfl | omega | rfl
  · have d0 := decide_eq_false h0
    have ta1 := tab_len hr0 hr1
    have tb1 := tab_nlen hr0 hr1 v0.1 (by omega)
    have tc1 := tab_get hr0 hr1 v0.1 (by omega) v1.1 v1.2
    have ta2 := tab_len hr0 hr2
    have tb2 := tab_nlen hr0 hr2 v0.1 (by omega)
    have tc2 := tab_get hr0 hr2 v0.1 (by omega) v2.1 v2.2
    refine fn_enter tabOK mixes Tryz.func66 rfl rfl _ Tryz.ntmps66 _ Tryz.results66 (by simp) fun hwf => ?_
    try simp (maxSteps := 9999999) only [go_sem]
    repeat refine And.intro (by first|omega|(constructor<;>omega)|kernel_rfl) ?_
    try simp (maxSteps := 9999999) only [go_sem, d0]
    refine LoopG.intro _ _ _ (fun y : Nat => match y with | 0 => ⟨[(0, .ref tPlanner (plD3 l) 0), (2, .sc (.int .i64 0)), (4, .ptr 0 0), (6, .ptr 1 0), (7, .sc (.bool false)), (27, .sc (.int .i64 l.length)), (28, .sc (.int .i64 0))], [(0, .box [.sc (.int .i64 (ni st 0)), .sc (.int .i64 (ni st 1)), .sc (.int .i64 (ni st 2))]), (1, .box [.sc (.int .i64 0), .sc (.int .i64 0), .sc (.int .i64 0)])]⟩ | 1 => ⟨[(0, .ref tPlanner (plD3 l) 0), (2, .sc (.int .i64 0)), (4, .ptr 0 0), (6, .ptr 1 0), (7, .sc (.bool false)), (27, .sc (.int .i64 l.length)), (28, .sc (.int .i64 1))], [(0, .box [.sc (.int .i64 (ni st 0)), .sc (.int .i64 (ni st 1)), .sc (.int .i64 (ni st 2))]), (1, .box [.sc (.int .i64 0), .sc (.int .i64 0), .sc (.int .i64 0)])]⟩ | 2 => ⟨[(0, .ref tPlanner (plD3 l) 0), (2, .sc (.int .i64 0)), (4, .ptr 0 0), (6, .ptr 1 0), (7, .sc (.bool false)), (27, .sc (.int .i64 l.length)), (28, .sc (.int .i64 2))], [(0, .box [.sc (.int .i64 (ni st 0)), .sc (.int .i64 (ni st 1)), .sc (.int .i64 (ni st 2))]), (1, .box [.sc (.int .i64 0), .sc (.int .i64 0), .sc (.int .i64 0)])]⟩ | _ => ⟨[(0, .ref tPlanner (plD3 l) 0), (2, .sc (.int .i64 0)), (4, .ptr 0 0), (6, .ptr 1 0), (7, .sc (.bool false)), (27, .sc (.int .i64 l.length)), (28, .sc (.int .i64 3))], [(0, .box [.sc (.int .i64 (ni st 0)), .sc (.int .i64 (ni st 1)), .sc (.int .i64 (ni st 2))]), (1, .box [.sc (.int .i64 0), .sc (.int .i64 0), .sc (.int .i64 0)])]⟩) (fun y => y ≤ 3 ∧ ∀ i, i < y → frAt l st 0 i) (fun y => 3 - y) 0 ?_ ⟨Nat.zero_le _, fun i h => absurd h (Nat.not_lt_zero _)⟩ ?_
    · refine Wk.mk [] ?_
      try simp (maxSteps := 9999999) only [go_sem]
    · rintro y ⟨hy, hall⟩
      obtain rfl | rfl | rfl | rfl : y = 0 ∨ y = 1 ∨ y = 2 ∨ y = 3 := by omega
      · try simp (maxSteps := 9999999) only [go_sem]
        refine CondW_dec (fun hA => ?_) (fun hA => absurd (by rw [hl]; decide) hA)
        try simp (maxSteps := 9999999) only [go_sem]
        repeat refine And.intro (by first|omega|(constructor<;>omega)|kernel_rfl) ?_
        refine LoopK.mk 1 ?_ ⟨by omega, fun i hi => ?_⟩ (by omega)
        · refine Wk.mk [] ?_
          try simp (maxSteps := 9999999) only [go_sem]
          try (and_intros <;> first | rfl | omega | exact ⟨_, rfl⟩)
        · by_cases h : i < 0
          · exact hall i h
          · intro hne; omega
      · try simp (maxSteps := 9999999) only [go_sem]
        refine CondW_dec (fun hA => ?_) (fun hA => absurd (by rw [hl]; decide) hA)
        cases hs : stpTB (nth (t := tTour) l 0) (ni st 0) (nth (t := tTour) l 1) (ni st 1) <;> rw [hs] at tc1
        · try simp (maxSteps := 9999999) only [go_sem, ta1, tb1]
          repeat refine And.intro (by first|omega|(constructor<;>omega)|kernel_rfl) ?_
          try simp (maxSteps := 9999999) only [go_sem, ta1, tb1, tc1]
          repeat refine And.intro (by first|omega|(constructor<;>omega)|kernel_rfl) ?_
          refine LoopK.mk 2 ?_ ⟨by omega, fun i hi => ?_⟩ (by omega)
          · refine Wk.mk [] ?_
            try simp (maxSteps := 9999999) only [go_sem]
            try (and_intros <;> first | rfl | omega | exact ⟨_, rfl⟩)
          · by_cases h : i < 1
            · exact hall i h
            · rw [show i = 1 by omega]; exact fun _ => hs
        · rw [bdec_f (fun h => by have := h.2 1 (by rw [hl]; decide) (by decide); rw [hs] at this; cases this), cond_false]
          try simp (maxSteps := 9999999) only [go_sem, ta1, tb1]
          repeat refine And.intro (by first|omega|(constructor<;>omega)|kernel_rfl) ?_
          try simp (maxSteps := 9999999) only [go_sem, ta1, tb1, tc1]
          all_goals first | kernel_rfl | omega | rfl
      · try simp (maxSteps := 9999999) only [go_sem]
        refine CondW_dec (fun hA => ?_) (fun hA => absurd (by rw [hl]; decide) hA)
        cases hs : stpTB (nth (t := tTour) l 0) (ni st 0) (nth (t := tTour) l 2) (ni st 2) <;> rw [hs] at tc2
        · try simp (maxSteps := 9999999) only [go_sem, ta2, tb2]
          repeat refine And.intro (by first|omega|(constructor<;>omega)|kernel_rfl) ?_
          try simp (maxSteps := 9999999) only [go_sem, ta2, tb2, tc2]
          repeat refine And.intro (by first|omega|(constructor<;>omega)|kernel_rfl) ?_
          refine LoopK.mk 3 ?_ ⟨by omega, fun i hi => ?_⟩ (by omega)
          · refine Wk.mk [] ?_
            try simp (maxSteps := 9999999) only [go_sem]
            try (and_intros <;> first | rfl | omega | exact ⟨_, rfl⟩)
          · by_cases h : i < 2
            · exact hall i h
            · rw [show i = 2 by omega]; exact fun _ => hs
        · rw [bdec_f (fun h => by have := h.2 2 (by rw [hl]; decide) (by decide); rw [hs] at this; cases this), cond_false]
          try simp (maxSteps := 9999999) only [go_sem, ta2, tb2]
          repeat refine And.intro (by first|omega|(constructor<;>omega)|kernel_rfl) ?_
          try simp (maxSteps := 9999999) only [go_sem, ta2, tb2, tc2]
          all_goals first | kernel_rfl | omega | rfl
      · try simp (maxSteps := 9999999) only [go_sem]
        refine CondW_dec (fun hA => by rw [hl] at hA; exact absurd hA (by decide)) (fun hA => ?_)
        rw [bdec_t ⟨h0, fun j hj => hall j (by omega)⟩, cond_true]
        try simp (maxSteps := 9999999) only [go_sem]
        repeat refine And.intro (by first|omega|(constructor<;>omega)|kernel_rfl) ?_
        all_goals first | kernel_rfl | omega | rfl
set_option maxRecDepth 100000 in
set_option maxHeartbeats 4000000 in
theorem advance_fn31 (l : List DT) (hl : l.length = 3) (st : List Int) (har : arP l) (hst : stP l st) : Fn Tryz.prog 66 [⟨.ext .ref tPlanner, some (plD3 l)⟩, ⟨tState, (ni st 0, ni st 1, ni st 2)⟩, ⟨.int, 1⟩] false [⟨tState, bif bdec (frP l st 1) then (ni st 0, ni st 1 + 1, ni st 2) else (ni st 0, ni st 1, ni st 2)⟩, ⟨.bool, bdec (frP l st 1)⟩] := by
  have hr1 := (har 1 (by rw [hl]; decide)).1
  have v0 := hst.2 0 (by rw [hst.1, hl]; decide)
  unfold stAt at v0
  have hr0 := (har 0 (by rw [hl]; decide)).1
  have v1 := hst.2 1 (by rw [hst.1, hl]; decide)
  unfold stAt at v1
  have v2 := hst.2 2 (by rw [hst.1, hl]; decide)
  unfold stAt at v2
  have hr2 := (har 2 (by rw [hl]; decide)).1
  have hs8 := (tour_parts hr1).2.2.2.1
  by_cases h0 : ni st 1 = (nth (t := tTour) l 1).2.2.length
  · have d0 := decide_eq_true h0
    rw [bdec_f fun h => h.1 h0, cond_false]
    refine fn_enter tabOK mixes Tryz.func66 rfl rfl _ Tryz.ntmps66 _ Tryz.results66 (by simp) fun hwf => ?_
    try simp (maxSteps := 9999999) only [go_sem]
    repeat refine And.intro (by first|omega|(constructor<;>omega)|kernel_rfl) ?_
    try simp (maxSteps := 9999999) only [go_sem, d0]
    all_goals first | kernel_rfl | omega | rfl
  · have d0 := decide_eq_false h0
    have ta0 := tab_len hr1 hr0
    have tb0 := tab_nlen hr1 hr0 v1.1 (by omega)
    have tc0 := tab_get hr1 hr0 v1.1 (by omega) v0.1 v0.2
    have ta2 := tab_len hr1 hr2
    have tb2 := tab_nlen hr1 hr2 v1.1 (by omega)
    have tc2 := tab_get hr1 hr2 v1.1 (by omega) v2.1 v2.2
    refine fn_enter tabOK mixes Tryz.func66 rfl rfl _ Tryz.ntmps66 _ Tryz.results66 (by simp) fun hwf => ?_
    try simp (maxSteps := 9999999) only [go_sem]
    repeat refine And.intro (by first|omega|(constructor<;>omega)|kernel_rfl) ?_
    try simp (maxSteps := 9999999) only [go_sem, d0]
    refine LoopG.intro _ _ _ (fun y : Nat => match y with | 0 => ⟨[(0, .ref tPlanner (plD3 l) 0), (2, .sc (.int .i64 1)), (4, .ptr 0 0), (6, .ptr 1 0), (7, .sc (.bool false)), (27, .sc (.int .i64 l.length)), (28, .sc (.int .i64 0))], [(0, .box [.sc (.int .i64 (ni st 0)), .sc (.int .i64 (ni st 1)), .sc (.int .i64 (ni st 2))]), (1, .box [.sc (.int .i64 0), .sc (.int .i64 0), .sc (.int .i64 0)])]⟩ | 1 => ⟨[(0, .ref tPlanner (plD3 l) 0), (2, .sc (.int .i64 1)), (4, .ptr 0 0), (6, .ptr 1 0), (7, .sc (.bool false)), (27, .sc (.int .i64 l.length)), (28, .sc (.int .i64 1))], [(0, .box [.sc (.int .i64 (ni st 0)), .sc (.int .i64 (ni st 1)), .sc (.int .i64 (ni st 2))]), (1, .box [.sc (.int .i64 0), .sc (.int .i64 0), .sc (.int .i64 0)])]⟩ | 2 => ⟨[(0, .ref tPlanner (plD3 l) 0), (2, .sc (.int .i64 1)), (4, .ptr 0 0), (6, .ptr 1 0), (7, .sc (.bool false)), (27, .sc (.int .i64 l.length)), (28, .sc (.int .i64 2))], [(0, .box [.sc (.int .i64 (ni st 0)), .sc (.int .i64 (ni st 1)), .sc (.int .i64 (ni st 2))]), (1, .box [.sc (.int .i64 0), .sc (.int .i64 0), .sc (.int .i64 0)])]⟩ | _ => ⟨[(0, .ref tPlanner (plD3 l) 0), (2, .sc (.int .i64 1)), (4, .ptr 0 0), (6, .ptr 1 0), (7, .sc (.bool false)), (27, .sc (.int .i64 l.length)), (28, .sc (.int .i64 3))], [(0, .box [.sc (.int .i64 (ni st 0)), .sc (.int .i64 (ni st 1)), .sc (.int .i64 (ni st 2))]), (1, .box [.sc (.int .i64 0), .sc (.int .i64 0), .sc (.int .i64 0)])]⟩) (fun y => y ≤ 3 ∧ ∀ i, i < y → frAt l st 1 i) (fun y => 3 - y) 0 ?_ ⟨Nat.zero_le _, fun i h => absurd h (Nat.not_lt_zero _)⟩ ?_
    · refine Wk.mk [] ?_
      try simp (maxSteps := 9999999) only [go_sem]
    · rintro y ⟨hy, hall⟩
      obtain rfl | rfl | rfl | rfl : y = 0 ∨ y = 1 ∨ y = 2 ∨ y = 3 := by omega
      · try simp (maxSteps := 9999999) only [go_sem]
        refine CondW_dec (fun hA => ?_) (fun hA => absurd (by rw [hl]; decide) hA)
        cases hs : stpTB (nth (t := tTour) l 1) (ni st 1) (nth (t := tTour) l 0) (ni st 0) <;> rw [hs] at tc0
        · try simp (maxSteps := 9999999) only [go_sem, ta0, tb0]
          repeat refine And.intro (by first|omega|(constructor<;>omega)|kernel_rfl) ?_
          try simp (maxSteps := 9999999) only [go_sem, ta0, tb0, tc0]
          repeat refine And.intro (by first|omega|(constructor<;>omega)|kernel_rfl) ?_
          refine LoopK.mk 1 ?_ ⟨by omega, fun i hi => ?_⟩ (by omega)
          · refine Wk.mk [] ?_
            try simp (maxSteps := 9999999) only [go_sem]
            try (and_intros <;> first | rfl | omega | exact ⟨_, rfl⟩)
          · by_cases h : i < 0
            · exact hall i h
            · rw [show i = 0 by omega]; exact fun _ => hs
        · rw [bdec_f (fun h => by have := h.2 0 (by rw [hl]; decide) (by decide); rw [hs] at this; cases this), cond_false]
          try simp (maxSteps := 9999999) only [go_sem, ta0, tb0]
          repeat refine And.intro (by first|omega|(constructor<;>omega)|kernel_rfl) ?_
          try simp (maxSteps := 9999999) only [go_sem, ta0, tb0, tc0]
          all_goals first | kernel_rfl | omega | rfl
      · try simp (maxSteps := 9999999) only [go_sem]
        refine CondW_dec (fun hA => ?_) (fun hA => absurd (by rw [hl]; decide) hA)
        try simp (maxSteps := 9999999) only [go_sem]
        repeat refine And.intro (by first|omega|(constructor<;>omega)|kernel_rfl) ?_
        refine LoopK.mk 2 ?_ ⟨by omega, fun i hi => ?_⟩ (by omega)
        · refine Wk.mk [] ?_
          try simp (maxSteps := 9999999) only [go_sem]
          try (and_intros <;> first | rfl | omega | exact ⟨_, rfl⟩)
        · by_cases h : i < 1
          · exact hall i h
          · intro hne; omega
      · try simp (maxSteps := 9999999) only [go_sem]
        refine CondW_dec (fun hA => ?_) (fun hA => absurd (by rw [hl]; decide) hA)
        cases hs : stpTB (nth (t := tTour) l 1) (ni st 1) (nth (t := tTour) l 2) (ni st 2) <;> rw [hs] at tc2
        · try simp (maxSteps := 9999999) only [go_sem, ta2, tb2]
          repeat refine And.intro (by first|omega|(constructor<;>omega)|kernel_rfl) ?_
          try simp (maxSteps := 9999999) only [go_sem, ta2, tb2, tc2]
          repeat refine And.intro (by first|omega|(constructor<;>omega)|kernel_rfl) ?_
          refine LoopK.mk 3 ?_ ⟨by omega, fun i hi => ?_⟩ (by omega)
          · refine Wk.mk [] ?_
            try simp (maxSteps := 9999999) only [go_sem]
            try (and_intros <;> first | rfl | omega | exact ⟨_, rfl⟩)
          · by_cases h : i < 2
            · exact hall i h
            · rw [show i = 2 by omega]; exact fun _ => hs
        · rw [bdec_f (fun h => by have := h.2 2 (by rw [hl]; decide) (by decide); rw [hs] at this; cases this), cond_false]
          try simp (maxSteps := 9999999) only [go_sem, ta2, tb2]
          repeat refine And.intro (by first|omega|(constructor<;>omega)|kernel_rfl) ?_
          try simp (maxSteps := 9999999) only [go_sem, ta2, tb2, tc2]
          all_goals first | kernel_rfl | omega | rfl
      · try simp (maxSteps := 9999999) only [go_sem]
        refine CondW_dec (fun hA => by rw [hl] at hA; exact absurd hA (by decide)) (fun hA => ?_)
        rw [bdec_t ⟨h0, fun j hj => hall j (by omega)⟩, cond_true]
        try simp (maxSteps := 9999999) only [go_sem]
        repeat refine And.intro (by first|omega|(constructor<;>omega)|kernel_rfl) ?_
        all_goals first | kernel_rfl | omega | rfl
set_option maxRecDepth 100000 in
set_option maxHeartbeats 4000000 in
theorem advance_fn32 (l : List DT) (hl : l.length = 3) (st : List Int) (har : arP l) (hst : stP l st) : Fn Tryz.prog 66 [⟨.ext .ref tPlanner, some (plD3 l)⟩, ⟨tState, (ni st 0, ni st 1, ni st 2)⟩, ⟨.int, 2⟩] false [⟨tState, bif bdec (frP l st 2) then (ni st 0, ni st 1, ni st 2 + 1) else (ni st 0, ni st 1, ni st 2)⟩, ⟨.bool, bdec (frP l st 2)⟩] := by
  have hr2 := (har 2 (by rw [hl]; decide)).1
  have v0 := hst.2 0 (by rw [hst.1, hl]; decide)
  unfold stAt at v0
  have hr0 := (har 0 (by rw [hl]; decide)).1
  have v1 := hst.2 1 (by rw [hst.1, hl]; decide)
  unfold stAt at v1
  have hr1 := (har 1 (by rw [hl]; decide)).1
  have v2 := hst.2 2 (by rw [hst.1, hl]; decide)
  unfold stAt at v2
  have hs8 := (tour_parts hr2).2.2.2.1
  by_cases h0 : ni st 2 = (nth (t := tTour) l 2).2.2.length
  · have d0 := decide_eq_true h0
    rw [bdec_f fun h => h.1 h0, cond_false]
    refine fn_enter tabOK mixes Tryz.func66 rfl rfl _ Tryz.ntmps66 _ Tryz.results66 (by simp) fun hwf => ?_
    try simp (maxSteps := 9999999) only [go_sem]
    repeat refine And.intro (by first|omega|(constructor<;>omega)|kernel_rfl) ?_
    try simp (maxSteps := 9999999) only [go_sem, d0]
    all_goals first | kernel_rfl | omega | rfl
  · have d0 := decide_eq_false h0
    have ta0 := tab_len hr2 hr0
    have tb0 := tab_nlen hr2 hr0 v2.1 (by omega)
    have tc0 := tab_get hr2 hr0 v2.1 (by omega) v0.1 v0.2
    have ta1 := tab_len hr2 hr1
    have tb1 := tab_nlen hr2 hr1 v2.1 (by omega)
    have tc1 := tab_get hr2 hr1 v2.1 (by omega) v1.1 v1.2
    refine fn_enter tabOK mixes Tryz.func66 rfl rfl _ Tryz.ntmps66 _ Tryz.results66 (by simp) fun hwf => ?_
    try simp (maxSteps := 9999999) only [go_sem]
    repeat refine And.intro (by first|omega|(constructor<;>omega)|kernel_rfl) ?_
    try simp (maxSteps := 9999999) only [go_sem, d0]
    refine LoopG.intro _ _ _ (fun y : Nat => match y with | 0 => ⟨[(0, .ref tPlanner (plD3 l) 0), (2, .sc (.int .i64 2)), (4, .ptr 0 0), (6, .ptr 1 0), (7, .sc (.bool false)), (27, .sc (.int .i64 l.length)), (28, .sc (.int .i64 0))], [(0, .box [.sc (.int .i64 (ni st 0)), .sc (.int .i64 (ni st 1)), .sc (.int .i64 (ni st 2))]), (1, .box [.sc (.int .i64 0), .sc (.int .i64 0), .sc (.int .i64 0)])]⟩ | 1 => ⟨[(0, .ref tPlanner (plD3 l) 0), (2, .sc (.int .i64 2)), (4, .ptr 0 0), (6, .ptr 1 0), (7, .sc (.bool false)), (27, .sc (.int .i64 l.length)), (28, .sc (.int .i64 1))], [(0, .box [.sc (.int .i64 (ni st 0)), .sc (.int .i64 (ni st 1)), .sc (.int .i64 (ni st 2))]), (1, .box [.sc (.int .i64 0), .sc (.int .i64 0), .sc (.int .i64 0)])]⟩ | 2 => ⟨[(0, .ref tPlanner (plD3 l) 0), (2, .sc (.int .i64 2)), (4, .ptr 0 0), (6, .ptr 1 0), (7, .sc (.bool false)), (27, .sc (.int .i64 l.length)), (28, .sc (.int .i64 2))], [(0, .box [.sc (.int .i64 (ni st 0)), .sc (.int .i64 (ni st 1)), .sc (.int .i64 (ni st 2))]), (1, .box [.sc (.int .i64 0), .sc (.int .i64 0), .sc (.int .i64 0)])]⟩ | _ => ⟨[(0, .ref tPlanner (plD3 l) 0), (2, .sc (.int .i64 2)), (4, .ptr 0 0), (6, .ptr 1 0), (7, .sc (.bool false)), (27, .sc (.int .i64 l.length)), (28, .sc (.int .i64 3))], [(0, .box [.sc (.int .i64 (ni st 0)), .sc (.int .i64 (ni st 1)), .sc (.int .i64 (ni st 2))]), (1, .box [.sc (.int .i64 0), .sc (.int .i64 0), .sc (.int .i64 0)])]⟩) (fun y => y ≤ 3 ∧ ∀ i, i < y → frAt l st 2 i) (fun y => 3 - y) 0 ?_ ⟨Nat.zero_le _, fun i h => absurd h (Nat.not_lt_zero _)⟩ ?_
    · refine Wk.mk [] ?_
      try simp (maxSteps := 9999999) only [go_sem]
    · rintro y ⟨hy, hall⟩
      obtain rfl | rfl | rfl | rfl : y = 0 ∨ y = 1 ∨ y = 2 ∨ y = 3 := by omega
      · try simp (maxSteps := 9999999) only [go_sem]
        refine CondW_dec (fun hA => ?_) (fun hA => absurd (by rw [hl]; decide) hA)
        cases hs : stpTB (nth (t := tTour) l 2) (ni st 2) (nth (t := tTour) l 0) (ni st 0) <;> rw [hs] at tc0
        · try simp (maxSteps := 9999999) only [go_sem, ta0, tb0]
          repeat refine And.intro (by first|omega|(constructor<;>omega)|kernel_rfl) ?_
          try simp (maxSteps := 9999999) only [go_sem, ta0, tb0, tc0]
          repeat refine And.intro (by first|omega|(constructor<;>omega)|kernel_rfl) ?_
          refine LoopK.mk 1 ?_ ⟨by omega, fun i hi => ?_⟩ (by omega)
          · refine Wk.mk [] ?_
            try simp (maxSteps := 9999999) only [go_sem]
            try (and_intros <;> first | rfl | omega | exact ⟨_, rfl⟩)
          · by_cases h : i < 0
            · exact hall i h
            · rw [show i = 0 by omega]; exact fun _ => hs
        · rw [bdec_f (fun h => by have := h.2 0 (by rw [hl]; decide) (by decide); rw [hs] at this; cases this), cond_false]
          try simp (maxSteps := 9999999) only [go_sem, ta0, tb0]
          repeat refine And.intro (by first|omega|(constructor<;>omega)|kernel_rfl) ?_
          try simp (maxSteps := 9999999) only [go_sem, ta0, tb0, tc0]
          all_goals first | kernel_rfl | omega | rfl
      · try simp (maxSteps := 9999999) only [go_sem]
        refine CondW_dec (fun hA => ?_) (fun hA => absurd (by rw [hl]; decide) hA)
        cases hs : stpTB (nth (t := tTour) l 2) (ni st 2) (nth (t := tTour) l 1) (ni st 1) <;> rw [hs] at tc1
        · try simp (maxSteps := 9999999) only [go_sem, ta1, tb1]
          repeat refine And.intro (by first|omega|(constructor<;>omega)|kernel_rfl) ?_
          try simp (maxSteps := 9999999) only [go_sem, ta1, tb1, tc1]
          repeat refine And.intro (by first|omega|(constructor<;>omega)|kernel_rfl) ?_
          refine LoopK.mk 2 ?_ ⟨by omega, fun i hi => ?_⟩ (by omega)
          · refine Wk.mk [] ?_
            try simp (maxSteps := 9999999) only [go_sem]
            try (and_intros <;> first | rfl | omega | exact ⟨_, rfl⟩)
          · by_cases h : i < 1
            · exact hall i h
            · rw [show i = 1 by omega]; exact fun _ => hs
        · rw [bdec_f (fun h => by have := h.2 1 (by rw [hl]; decide) (by decide); rw [hs] at this; cases this), cond_false]
          try simp (maxSteps := 9999999) only [go_sem, ta1, tb1]
          repeat refine And.intro (by first|omega|(constructor<;>omega)|kernel_rfl) ?_
          try simp (maxSteps := 9999999) only [go_sem, ta1, tb1, tc1]
          all_goals first | kernel_rfl | omega | rfl
      · try simp (maxSteps := 9999999) only [go_sem]
        refine CondW_dec (fun hA => ?_) (fun hA => absurd (by rw [hl]; decide) hA)
        try simp (maxSteps := 9999999) only [go_sem]
        repeat refine And.intro (by first|omega|(constructor<;>omega)|kernel_rfl) ?_
        refine LoopK.mk 3 ?_ ⟨by omega, fun i hi => ?_⟩ (by omega)
        · refine Wk.mk [] ?_
          try simp (maxSteps := 9999999) only [go_sem]
          try (and_intros <;> first | rfl | omega | exact ⟨_, rfl⟩)
        · by_cases h : i < 2
          · exact hall i h
          · intro hne; omega
      · try simp (maxSteps := 9999999) only [go_sem]
        refine CondW_dec (fun hA => by rw [hl] at hA; exact absurd hA (by decide)) (fun hA => ?_)
        rw [bdec_t ⟨h0, fun j hj => hall j (by omega)⟩, cond_true]
        try simp (maxSteps := 9999999) only [go_sem]
        repeat refine And.intro (by first|omega|(constructor<;>omega)|kernel_rfl) ?_
        all_goals first | kernel_rfl | omega | rfl
end Go.Proofs.YtghckbohaghgkaaGreat.DW

/-
  CanAdvance of the implementation, as a contract on data (printed by gen18.py).
-/
namespace Go.Proofs.YtghckbohaghgkaaGreat.DW
open Go.RowKit
theorem ca_fr {l : List DT} {st : List Int} {k : Int} (ha : arB l = true) (hst : stP l st) (hk : 0 ≤ k ∧ k ≤ (l.length : Int) - 1) : bdec (caP l st k) = bdec (frP l st k.toNat) := by
  by_cases hf : frP l st k.toNat
  · rw [bdec_t hf]; exact bdec_t ⟨ha, hst, hk, hf⟩
  · rw [bdec_f hf]; exact bdec_f fun h => hf h.2.2.2
set_option maxRecDepth 100000 in
set_option maxHeartbeats 4000000 in
theorem CanAdvanceI_fn (l : List DT) (st : List Int) (k : Int) : Fn Tryz.prog 28 [⟨.slice tTour, l⟩, ⟨tInts, st⟩, ⟨.int, k⟩] false [⟨.bool, bdec (caP l st k)⟩] := by
  have c0 := AreToursI_fn l
  cases ha : arB l <;> rw [ha] at c0
  · rw [bdec_f fun h => by have := h.1; rw [ha] at this; cases this]
    refine fn_enter tabOK mixes Tryz.func28 rfl rfl _ Tryz.ntmps28 _ Tryz.results28 (by simp) fun hwf => ?_
    try simp (maxSteps := 9999999) only [go_sem]
    refine CallW.mk (c0) ?_
    try simp (maxSteps := 9999999) only [go_sem]
    all_goals first | kernel_rfl | omega | rfl
  · have har := arB_p ha
    have c1 := within_fn k 0 ((l.length : Int) - 1)
    by_cases hk : 0 ≤ k ∧ k ≤ (l.length : Int) - 1
    rotate_left
    · rw [decide_eq_false hk] at c1
      rw [bdec_f fun h => hk h.2.2.1]
      refine fn_enter tabOK mixes Tryz.func28 rfl rfl _ Tryz.ntmps28 _ Tryz.results28 (by simp) fun hwf => ?_
      try simp (maxSteps := 9999999) only [go_sem]
      refine CallW.mk (c0) ?_
      try simp (maxSteps := 9999999) only [go_sem]
      repeat refine And.intro (by first|omega|(constructor<;>omega)|kernel_rfl) ?_
      refine CallW.mk (c1) ?_
      try simp (maxSteps := 9999999) only [go_sem]
      all_goals first | kernel_rfl | omega | rfl
    rw [decide_eq_true hk] at c1
    obtain hl | hl | hl : l.length = 1 ∨ l.length = 2 ∨ l.length = 3 := by omega

    · have c2 := newPlanner_fn1 l hl
      by_cases hst : stP l st
      · have c3 := stateOf_fn1 l hl st hst
        rw [ca_fr ha hst hk]
        obtain rfl : k = 0 := by omega
        · have c4 := advance_fn10 l hl st har.2 hst
          rw [show ((0 : Int).toNat) = 0 from rfl]
          refine fn_enter tabOK mixes Tryz.func28 rfl rfl _ Tryz.ntmps28 _ Tryz.results28 (by simp) fun hwf => ?_
          try simp (maxSteps := 9999999) only [go_sem]
          refine CallW.mk (c0) ?_
          try simp (maxSteps := 9999999) only [go_sem]
          repeat refine And.intro (by first|omega|(constructor<;>omega)|kernel_rfl) ?_
          refine CallW.mk (c1) ?_
          try simp (maxSteps := 9999999) only [go_sem]
          refine CallW.mk (c2) ?_
          try simp (maxSteps := 9999999) only [go_sem]
          refine CallW.mk (c3) ?_
          try simp (maxSteps := 9999999) only [go_sem]
          refine CallW.mk (c4) ?_
          try simp (maxSteps := 9999999) only [go_sem]
          all_goals first | kernel_rfl | omega | rfl
      · obtain ⟨s, c3⟩ := stateOf_bad1 l hl st hst
        rw [bdec_f fun h => hst h.2.1]
        refine fn_enter tabOK mixes Tryz.func28 rfl rfl _ Tryz.ntmps28 _ Tryz.results28 (by simp) fun hwf => ?_
        try simp (maxSteps := 9999999) only [go_sem]
        refine CallW.mk (c0) ?_
        try simp (maxSteps := 9999999) only [go_sem]
        repeat refine And.intro (by first|omega|(constructor<;>omega)|kernel_rfl) ?_
        refine CallW.mk (c1) ?_
        try simp (maxSteps := 9999999) only [go_sem]
        refine CallW.mk (c2) ?_
        try simp (maxSteps := 9999999) only [go_sem]
        refine CallW.mk (c3) ?_
        try simp (maxSteps := 9999999) only [go_sem]
        all_goals first | kernel_rfl | omega | rfl
    · have c2 := newPlanner_fn2 l hl
      by_cases hst : stP l st
      · have c3 := stateOf_fn2 l hl st hst
        rw [ca_fr ha hst hk]
        obtain rfl | rfl : k = 0 ∨ k = 1 := by omega
        · have c4 := advance_fn20 l hl st har.2 hst
          rw [show ((0 : Int).toNat) = 0 from rfl]
          refine fn_enter tabOK mixes Tryz.func28 rfl rfl _ Tryz.ntmps28 _ Tryz.results28 (by simp) fun hwf => ?_
          try simp (maxSteps := 9999999) only [go_sem]
          refine CallW.mk (c0) ?_
          try simp (maxSteps := 9999999) only [go_sem]
          repeat refine And.intro (by first|omega|(constructor<;>omega)|kernel_rfl) ?_
          refine CallW.mk (c1) ?_
          try simp (maxSteps := 9999999) only [go_sem]
          refine CallW.mk (c2) ?_
          try simp (maxSteps := 9999999) only [go_sem]
          refine CallW.mk (c3) ?_
          try simp (maxSteps := 9999999) only [go_sem]
          refine CallW.mk (c4) ?_
          try simp (maxSteps := 9999999) only [go_sem]
          all_goals first | kernel_rfl | omega | rfl
        · have c4 := advance_fn21 l hl st har.2 hst
          rw [show ((1 : Int).toNat) = 1 from rfl]
          refine fn_enter tabOK mixes Tryz.func28 rfl rfl _ Tryz.ntmps28 _ Tryz.results28 (by simp) fun hwf => ?_
          try simp (maxSteps := 9999999) only [go_sem]
          refine CallW.mk (c0) ?_
          try simp (maxSteps := 9999999) only [go_sem]
          repeat refine And.intro (by first|omega|(constructor<;>omega)|kernel_rfl) ?_
          refine CallW.mk (c1) ?_
          try simp (maxSteps := 9999999) only [go_sem]
          refine CallW.mk (c2) ?_
          try simp (maxSteps := 9999999) only [go_sem]
          refine CallW.mk (c3) ?_
          try simp (maxSteps := 9999999) only [go_sem]
          refine CallW.mk (c4) ?_
          try simp (maxSteps := 9999999) only [go_sem]
          all_goals first | kernel_rfl | omega | rfl
      · obtain ⟨s, c3⟩ := stateOf_bad2 l hl st hst
        rw [bdec_f fun h => hst h.2.1]
        refine fn_enter tabOK mixes Tryz.func28 rfl rfl _ Tryz.ntmps28 _ Tryz.results28 (by simp) fun hwf => ?_
        try simp (maxSteps := 9999999) only [go_sem]
        refine CallW.mk (c0) ?_
        try simp (maxSteps := 9999999) only [go_sem]
        repeat refine And.intro (by first|omega|(constructor<;>omega)|kernel_rfl) ?_
        refine CallW.mk (c1) ?_
        try simp (maxSteps := 9999999) only [go_sem]
        refine CallW.mk (c2) ?_
        try simp (maxSteps := 9999999) only [go_sem]
        refine CallW.mk (c3) ?_
        try simp (maxSteps := 9999999) only [go_sem]
        all_goals first | kernel_rfl | omega | rfl
    · have c2 := newPlanner_fn3 l hl
      by_cases hst : stP l st
      · have c3 := stateOf_fn3 l hl st hst
        rw [ca_fr ha hst hk]
        obtain rfl | rfl | rfl : k = 0 ∨ k = 1 ∨ k = 2 := by omega
        · have c4 := advance_fn30 l hl st har.2 hst
          rw [show ((0 : Int).toNat) = 0 from rfl]
          refine fn_enter tabOK mixes Tryz.func28 rfl rfl _ Tryz.ntmps28 _ Tryz.results28 (by simp) fun hwf => ?_
          try simp (maxSteps := 9999999) only [go_sem]
          refine CallW.mk (c0) ?_
          try simp (maxSteps := 9999999) only [go_sem]
          repeat refine And.intro (by first|omega|(constructor<;>omega)|kernel_rfl) ?_
          refine CallW.mk (c1) ?_
          try simp (maxSteps := 9999999) only [go_sem]
          refine CallW.mk (c2) ?_
          try simp (maxSteps := 9999999) only [go_sem]
          refine CallW.mk (c3) ?_
          try simp (maxSteps := 9999999) only [go_sem]
          refine CallW.mk (c4) ?_
          try simp (maxSteps := 9999999) only [go_sem]
          all_goals first | kernel_rfl | omega | rfl
        · have c4 := advance_fn31 l hl st har.2 hst
          rw [show ((1 : Int).toNat) = 1 from rfl]
          refine fn_enter tabOK mixes Tryz.func28 rfl rfl _ Tryz.ntmps28 _ Tryz.results28 (by simp) fun hwf => ?_
          try simp (maxSteps := 9999999) only [go_sem]
          refine CallW.mk (c0) ?_
          try simp (maxSteps := 9999999) only [go_sem]
          repeat refine And.intro (by first|omega|(constructor<;>omega)|kernel_rfl) ?_
          refine CallW.mk (c1) ?_
          try simp (maxSteps := 9999999) only [go_sem]
          refine CallW.mk (c2) ?_
          try simp (maxSteps := 9999999) only [go_sem]
          refine CallW.mk (c3) ?_
          try simp (maxSteps := 9999999) only [go_sem]
          refine CallW.mk (c4) ?_
          try simp (maxSteps := 9999999) only [go_sem]
          all_goals first | kernel_rfl | omega | rfl
        · have c4 := advance_fn32 l hl st har.2 hst
          rw [show ((2 : Int).toNat) = 2 from rfl]
          refine fn_enter tabOK mixes Tryz.func28 rfl rfl _ Tryz.ntmps28 _ Tryz.results28 (by simp) fun hwf => ?_
          try simp (maxSteps := 9999999) only [go_sem]
          refine CallW.mk (c0) ?_
          try simp (maxSteps := 9999999) only [go_sem]
          repeat refine And.intro (by first|omega|(constructor<;>omega)|kernel_rfl) ?_
          refine CallW.mk (c1) ?_
          try simp (maxSteps := 9999999) only [go_sem]
          refine CallW.mk (c2) ?_
          try simp (maxSteps := 9999999) only [go_sem]
          refine CallW.mk (c3) ?_
          try simp (maxSteps := 9999999) only [go_sem]
          refine CallW.mk (c4) ?_
          try simp (maxSteps := 9999999) only [go_sem]
          all_goals first | kernel_rfl | omega | rfl
      · obtain ⟨s, c3⟩ := stateOf_bad3 l hl st hst
        rw [bdec_f fun h => hst h.2.1]
        refine fn_enter tabOK mixes Tryz.func28 rfl rfl _ Tryz.ntmps28 _ Tryz.results28 (by simp) fun hwf => ?_
        try simp (maxSteps := 9999999) only [go_sem]
        refine CallW.mk (c0) ?_
        try simp (maxSteps := 9999999) only [go_sem]
        repeat refine And.intro (by first|omega|(constructor<;>omega)|kernel_rfl) ?_
        refine CallW.mk (c1) ?_
        try simp (maxSteps := 9999999) only [go_sem]
        refine CallW.mk (c2) ?_
        try simp (maxSteps := 9999999) only [go_sem]
        refine CallW.mk (c3) ?_
        try simp (maxSteps := 9999999) only [go_sem]
        all_goals first | kernel_rfl | omega | rfl
end Go.Proofs.YtghckbohaghgkaaGreat.DW

/-
  The laws' helpers for vectors and tours, as contracts on data.
-/
namespace Go.Proofs.YtghckbohaghgkaaGreat
open Go.RowKit
abbrev DVec := Int × Int
abbrev RVec : Rp DVec := Rp.prod Rp.int Rp.int
abbrev DVecS := List DVec
abbrev RVecS : Rp DVecS := Rp.slice RVec (by decide)
abbrev DTour := DVecS × (DPlacement × DStepS)
abbrev RTour : Rp DTour := Rp.prod RVecS (Rp.prod RPlacement RStepS)
def tTour (x : DTour) : Nat := (x.1.length + tPlacement x.2.1) + (x.2.2.length + tStepS x.2.2)
namespace DW
theorem szVecS_fn (x : DVecS) (left : Int) (h0 : 0 ≤ left) (h1 : left ≤ 1048576) : Fn Tryz.prog 30 [⟨.slice DW.tVec, x⟩, ⟨.int, left⟩] false [⟨.int, szr left x.length⟩] := by
  by_cases h : (x.length : Int) ≤ left
  · rw [← szr_ge h]
    have d := decide_eq_false (p := left - (x.length : Int) < 0) (by omega)
    refine fn_enter tabOK mixes Tryz.func30 rfl rfl _ Tryz.ntmps30 _ Tryz.results30 (by simp) fun hwf => ?_
    have hl : x.length ≤ 9223372036854775807 := (hwf ⟨.slice DW.tVec, x⟩ (by simp)).1
    try simp (maxSteps := 9999999) only [go_sem]
    repeat refine And.intro (by first|omega|(constructor<;>omega)|kernel_rfl) ?_
    try simp (maxSteps := 9999999) only [go_sem, d]
    all_goals first | kernel_rfl | omega | rfl
  · rw [← szr_lt (by omega)]
    have d := decide_eq_true (p := left - (x.length : Int) < 0) (by omega)
    refine fn_enter tabOK mixes Tryz.func30 rfl rfl _ Tryz.ntmps30 _ Tryz.results30 (by simp) fun hwf => ?_
    have hl : x.length ≤ 9223372036854775807 := (hwf ⟨.slice DW.tVec, x⟩ (by simp)).1
    try simp (maxSteps := 9999999) only [go_sem]
    repeat refine And.intro (by first|omega|(constructor<;>omega)|kernel_rfl) ?_
    try simp (maxSteps := 9999999) only [go_sem, d]
    all_goals first | kernel_rfl | omega | rfl
theorem toVec_fn (x : DVec) : Fn Tryz.prog 80 [⟨DW.tVec, x⟩] false [⟨DW.tVec, x⟩] := by
  refine fn_enter tabOK mixes Tryz.func80 rfl rfl _ Tryz.ntmps80 _ Tryz.results80 (by simp) fun hwf => ?_
  try simp (maxSteps := 9999999) only [go_sem]
  all_goals first | kernel_rfl | omega | rfl
theorem toVecS_fn (x : DVecS) (hs : x.length ≤ 1048576) : Fn Tryz.prog 38 [⟨.slice DW.tVec, x⟩] true [⟨.slice DW.tVec, x⟩] := by
  refine fn_enter tabOK mixes Tryz.func38 rfl rfl _ Tryz.ntmps38 _ Tryz.results38 (by simp) fun hwf => ?_
  try simp (maxSteps := 9999999) only [go_sem]
  repeat refine And.intro (by first|omega|(constructor<;>omega)|kernel_rfl) ?_
  refine LoopG.intro _ _ _ (fun i : Nat => ⟨[(0, .sl DW.tVec x), (3, .row 0 0), (4, .sc (.int .i64 i))], [(0, .row 113 DW.tVec 0 true (x.take i ++ List.replicate (x.length - i) ((0 : Int), (0 : Int))))]⟩) (fun i => i ≤ x.length) (fun i => x.length - i) 0 ?_ (Nat.zero_le _) ?_
  · refine Wk.mk [] ?_
    try simp (maxSteps := 9999999) only [go_sem]
    try (and_intros <;> first | rfl | omega | exact ⟨_, rfl⟩)
  · rintro i hi
    have hlen : (x.take i ++ List.replicate (x.length - i) ((0 : Int), (0 : Int))).length = x.length := by simp; omega
    try simp (maxSteps := 9999999) only [go_sem]
    refine CondW_dec (fun hA => ?_) (fun hA => ?_)
    · have hset : (x.take i ++ List.replicate (x.length - i) ((0 : Int), (0 : Int))).set i (nth (t := DW.tVec) x i) = x.take (i + 1) ++ List.replicate (x.length - (i + 1)) ((0 : Int), (0 : Int)) := by
        have hlt : i < x.length := by omega
        rw [List.set_append_right _ _ (by rw [List.length_take]; omega), List.length_take, show i - min i x.length = 0 by omega, show x.length - i = (x.length - (i + 1)) + 1 by omega, List.replicate_succ, List.set_cons_zero, nth_lt hlt]
        have e : x.take (i + 1) = x.take i ++ [x[i]] := List.take_succ_eq_append_getElem hlt
        rw [e, List.append_assoc]; rfl
      have ht : (List.take i x).length = i := by rw [List.length_take]; omega
      have c1 := toVec_fn (nth (t := DW.tVec) x i)
      try simp (maxSteps := 9999999) only [go_sem]
      repeat refine And.intro (by first|omega|(constructor<;>omega)|kernel_rfl) ?_
      refine CallW.mk (c1) ?_
      try simp (maxSteps := 9999999) only [go_sem]
      repeat refine And.intro (by first|omega|(constructor<;>omega)|kernel_rfl) ?_
      refine LoopK.mk (i + 1) ?_ (by omega) (by omega)
      rw [← hset]
      refine Wk.mk [] ?_
      try simp (maxSteps := 9999999) only [go_sem]
      try (and_intros <;> first | rfl | omega | exact ⟨_, rfl⟩)
    · have : x.take i ++ List.replicate (x.length - i) ((0 : Int), (0 : Int)) = x := by
        rw [List.take_of_length_le (by omega), show x.length - i = 0 by omega]; simp
      rw [this]
      try simp (maxSteps := 9999999) only [go_sem]
      all_goals first | kernel_rfl | omega | rfl
theorem eqVec_fn (x y : DVec) : Fn Tryz.prog 88 [⟨DW.tVec, x⟩, ⟨DW.tVec, y⟩] false [⟨.bool, eqb x y⟩] := by
  by_cases h1 : x.1 = y.1
  · have d1 := decide_eq_true h1
    by_cases h2 : x.2 = y.2
    · have d2 := decide_eq_true h2
      rw [eqb_true (Prod.ext h1 h2)]
      refine fn_enter tabOK mixes Tryz.func88 rfl rfl _ Tryz.ntmps88 _ Tryz.results88 (by simp) fun hwf => ?_
      try simp (maxSteps := 9999999) only [go_sem, d1, d2]
    · have d2 := decide_eq_false h2
      rw [eqb_false (fun h => h2 (by rw [h]))]
      refine fn_enter tabOK mixes Tryz.func88 rfl rfl _ Tryz.ntmps88 _ Tryz.results88 (by simp) fun hwf => ?_
      try simp (maxSteps := 9999999) only [go_sem, d1, d2]
  · have d1 := decide_eq_false h1
    rw [eqb_false (fun h => h1 (by rw [h]))]
    refine fn_enter tabOK mixes Tryz.func88 rfl rfl _ Tryz.ntmps88 _ Tryz.results88 (by simp) fun hwf => ?_
    try simp (maxSteps := 9999999) only [go_sem, d1]
theorem eqVecS_fn (x y : DVecS) : Fn Tryz.prog 43 [⟨.slice DW.tVec, x⟩, ⟨.slice DW.tVec, y⟩] false [⟨.bool, eqb x y⟩] := by
  by_cases h0 : (x.length : Int) = y.length
  · have d0 := decide_eq_true h0
    refine fn_enter tabOK mixes Tryz.func43 rfl rfl _ Tryz.ntmps43 _ Tryz.results43 (by simp) fun hwf => ?_
    have hl : x.length ≤ 9223372036854775807 := (hwf ⟨.slice DW.tVec, x⟩ (by simp)).1
    try simp (maxSteps := 9999999) only [go_sem, d0]
    refine LoopG.intro _ _ _ (fun i : Nat => ⟨[(0, .sl DW.tVec x), (1, .sl DW.tVec y), (5, .sc (.int .i64 i))], []⟩) (fun i => ∀ j, j < i → j < x.length → nth (t := DW.tVec) x j = nth (t := DW.tVec) y j) (fun i => x.length - i) 0 ?_ (fun j h => absurd h (Nat.not_lt_zero _)) ?_
    · refine Wk.mk [] ?_
      try simp (maxSteps := 9999999) only [go_sem]
      try (and_intros <;> first | rfl | omega | exact ⟨_, rfl⟩)
    · rintro i hi
      try simp (maxSteps := 9999999) only [go_sem]
      refine CondW_dec (fun hA => ?_) (fun hA => ?_)
      · have c1 := eqVec_fn (nth (t := DW.tVec) x i) (nth (t := DW.tVec) y i)
        by_cases e : nth (t := DW.tVec) x i = nth (t := DW.tVec) y i
        · rw [eqb_true e] at c1
          try simp (maxSteps := 9999999) only [go_sem]
          repeat refine And.intro (by first|omega|(constructor<;>omega)|kernel_rfl) ?_
          refine CallW.mk (c1) ?_
          try simp (maxSteps := 9999999) only [go_sem]
          repeat refine And.intro (by first|omega|(constructor<;>omega)|kernel_rfl) ?_
          refine LoopK.mk (i + 1) ?_ (fun j h1 h2 => ?_) (by omega)
          · refine Wk.mk [] ?_
            try simp (maxSteps := 9999999) only [go_sem]
            try (and_intros <;> first | rfl | omega | exact ⟨_, rfl⟩)
          · by_cases h3 : j < i
            · exact hi j h3 h2
            · rw [show j = i by omega]; exact e
        · rw [eqb_false e] at c1
          rw [eqb_false (fun h => e (by rw [h]))]
          try simp (maxSteps := 9999999) only [go_sem]
          repeat refine And.intro (by first|omega|(constructor<;>omega)|kernel_rfl) ?_
          refine CallW.mk (c1) ?_
          try simp (maxSteps := 9999999) only [go_sem]
          all_goals first | kernel_rfl | omega | rfl
      · have : x = y := by
          refine List.ext_getElem (by omega) fun j h1 h2 => ?_
          have := hi j (by omega) h1
          rwa [nth_lt h1, nth_lt h2] at this
        rw [eqb_true this]
        try simp (maxSteps := 9999999) only [go_sem]
  · have d0 := decide_eq_false h0
    rw [eqb_false (fun h => h0 (by rw [h]))]
    refine fn_enter tabOK mixes Tryz.func43 rfl rfl _ Tryz.ntmps43 _ Tryz.results43 (by simp) fun hwf => ?_
    try simp (maxSteps := 9999999) only [go_sem, d0]
theorem szTour_fn (x : DTour) (left : Int) (h0 : 0 ≤ left) (h1 : left ≤ 1048576) : Fn Tryz.prog 8 [⟨DW.tTour, x⟩, ⟨.int, left⟩] false [⟨.int, szr left (Go.Proofs.YtghckbohaghgkaaGreat.tTour x)⟩] := by
  obtain ⟨r, p, l⟩ := x
  have c1 := szVecS_fn r left h0 h1
  have r1 := szr_lo left r.length h0
  have hT : Go.Proofs.YtghckbohaghgkaaGreat.tTour (r, p, l) = (r.length + tPlacement p) + (l.length + tStepS l) := rfl
  by_cases e1 : szr left r.length < 0
  · have d1 := decide_eq_true e1
    rw [← szr_fail e1 (b := Go.Proofs.YtghckbohaghgkaaGreat.tTour (r, p, l)) (by omega)]
    refine fn_enter tabOK mixes Tryz.func8 rfl rfl _ Tryz.ntmps8 _ Tryz.results8 (by simp) fun hwf => ?_
    try simp (maxSteps := 9999999) only [go_sem]
    refine CallW.mk (c1) ?_
    try simp (maxSteps := 9999999) only [go_sem]
    try simp (maxSteps := 9999999) only [go_sem, d1]
    all_goals first | kernel_rfl | omega | rfl
  · have d1 := decide_eq_false e1
    have c2 := szPlacement_fn p (szr left r.length) (by omega) (by omega)
    have r2 := szr_lo (szr left r.length) (tPlacement p) (by omega)
    have a2 := szr_add left r.length (tPlacement p) (by omega)
    by_cases e2 : szr (szr left r.length) (tPlacement p) < 0
    · have d2 := decide_eq_true e2
      rw [← szr_fail (by rw [← a2]; exact e2) (a := r.length + tPlacement p) (b := Go.Proofs.YtghckbohaghgkaaGreat.tTour (r, p, l)) (by omega)]
      refine fn_enter tabOK mixes Tryz.func8 rfl rfl _ Tryz.ntmps8 _ Tryz.results8 (by simp) fun hwf => ?_
      try simp (maxSteps := 9999999) only [go_sem]
      refine CallW.mk (c1) ?_
      try simp (maxSteps := 9999999) only [go_sem]
      try simp (maxSteps := 9999999) only [go_sem, d1]
      refine CallW.mk (c2) ?_
      try simp (maxSteps := 9999999) only [go_sem]
      try simp (maxSteps := 9999999) only [go_sem, d2]
      all_goals first | kernel_rfl | omega | rfl
    · have d2 := decide_eq_false e2
      have c3 := szStepS_fn l (szr (szr left r.length) (tPlacement p)) (by omega) (by omega)
      have r3 := szr_lo (szr (szr left r.length) (tPlacement p)) (l.length + tStepS l) (by omega)
      have a3 := szr_add left (r.length + tPlacement p) (l.length + tStepS l) (by rw [← a2]; omega)
      rw [← a2] at a3
      rw [hT, ← a3]
      by_cases e3 : szr (szr (szr left r.length) (tPlacement p)) (l.length + tStepS l) < 0
      · have d3 := decide_eq_true e3
        have e4 : szr (szr (szr left r.length) (tPlacement p)) (l.length + tStepS l) = -1 := by omega
        rw [e4] at d3 c3 ⊢
        refine fn_enter tabOK mixes Tryz.func8 rfl rfl _ Tryz.ntmps8 _ Tryz.results8 (by simp) fun hwf => ?_
        try simp (maxSteps := 9999999) only [go_sem]
        refine CallW.mk (c1) ?_
        try simp (maxSteps := 9999999) only [go_sem]
        try simp (maxSteps := 9999999) only [go_sem, d1]
        refine CallW.mk (c2) ?_
        try simp (maxSteps := 9999999) only [go_sem]
        try simp (maxSteps := 9999999) only [go_sem, d2]
        refine CallW.mk (c3) ?_
        try simp (maxSteps := 9999999) only [go_sem]
        all_goals first | kernel_rfl | omega | rfl
      · have d3 := decide_eq_false e3
        refine fn_enter tabOK mixes Tryz.func8 rfl rfl _ Tryz.ntmps8 _ Tryz.results8 (by simp) fun hwf => ?_
        try simp (maxSteps := 9999999) only [go_sem]
        refine CallW.mk (c1) ?_
        try simp (maxSteps := 9999999) only [go_sem]
        try simp (maxSteps := 9999999) only [go_sem, d1]
        refine CallW.mk (c2) ?_
        try simp (maxSteps := 9999999) only [go_sem]
        try simp (maxSteps := 9999999) only [go_sem, d2]
        refine CallW.mk (c3) ?_
        try simp (maxSteps := 9999999) only [go_sem]
        try simp (maxSteps := 9999999) only [go_sem, d3]
        all_goals first | kernel_rfl | omega | rfl
theorem toTour_fn (x : DTour) (hs : Go.Proofs.YtghckbohaghgkaaGreat.tTour x ≤ 1048576) : Fn Tryz.prog 10 [⟨DW.tTour, x⟩] true [⟨DW.tTour, x⟩] := by
  obtain ⟨r, p, l⟩ := x
  have hT : Go.Proofs.YtghckbohaghgkaaGreat.tTour (r, p, l) = (r.length + tPlacement p) + (l.length + tStepS l) := rfl
  have c1 := toVecS_fn r (by omega)
  have c2 := toPlacement_fn p (by omega)
  have c3 := toStepS_fn l (by omega)
  refine fn_enter tabOK mixes Tryz.func10 rfl rfl _ Tryz.ntmps10 _ Tryz.results10 (by simp) fun hwf => ?_
  try simp (maxSteps := 9999999) only [go_sem]
  refine CallW.mk (c1) ?_
  try simp (maxSteps := 9999999) only [go_sem]
  refine CallW.mk (c2) ?_
  try simp (maxSteps := 9999999) only [go_sem]
  refine CallW.mk (c3) ?_
  try simp (maxSteps := 9999999) only [go_sem]
  all_goals first | kernel_rfl | omega | rfl
theorem eqTour_fn (x y : DTour) : Fn Tryz.prog 12 [⟨DW.tTour, x⟩, ⟨DW.tTour, y⟩] false [⟨.bool, eqb x y⟩] := by
  obtain ⟨r, p, l⟩ := x
  obtain ⟨r', p', l'⟩ := y
  have c1 := eqVecS_fn r r'
  have c2 := eqPlacement_fn p p'
  have c3 := eqStepS_fn l l'
  by_cases e1 : r = r'
  · rw [eqb_true e1] at c1
    by_cases e2 : p = p'
    · rw [eqb_true e2] at c2
      by_cases e3 : l = l'
      · rw [eqb_true e3] at c3
        rw [eqb_true (by rw [e1, e2, e3])]
        refine fn_enter tabOK mixes Tryz.func12 rfl rfl _ Tryz.ntmps12 _ Tryz.results12 (by simp) fun hwf => ?_
        try simp (maxSteps := 9999999) only [go_sem]
        refine CallW.mk (c1) ?_
        try simp (maxSteps := 9999999) only [go_sem]
        refine CallW.mk (c2) ?_
        try simp (maxSteps := 9999999) only [go_sem]
        refine CallW.mk (c3) ?_
        try simp (maxSteps := 9999999) only [go_sem]
      · rw [eqb_false e3] at c3
        rw [eqb_false (fun h => e3 (congrArg (fun z => z.2.2) h))]
        refine fn_enter tabOK mixes Tryz.func12 rfl rfl _ Tryz.ntmps12 _ Tryz.results12 (by simp) fun hwf => ?_
        try simp (maxSteps := 9999999) only [go_sem]
        refine CallW.mk (c1) ?_
        try simp (maxSteps := 9999999) only [go_sem]
        refine CallW.mk (c2) ?_
        try simp (maxSteps := 9999999) only [go_sem]
        refine CallW.mk (c3) ?_
        try simp (maxSteps := 9999999) only [go_sem]
    · rw [eqb_false e2] at c2
      rw [eqb_false (fun h => e2 (congrArg (fun z => z.2.1) h))]
      refine fn_enter tabOK mixes Tryz.func12 rfl rfl _ Tryz.ntmps12 _ Tryz.results12 (by simp) fun hwf => ?_
      try simp (maxSteps := 9999999) only [go_sem]
      refine CallW.mk (c1) ?_
      try simp (maxSteps := 9999999) only [go_sem]
      refine CallW.mk (c2) ?_
      try simp (maxSteps := 9999999) only [go_sem]
  · rw [eqb_false e1] at c1
    rw [eqb_false (fun h => e1 (congrArg (fun z => z.1) h))]
    refine fn_enter tabOK mixes Tryz.func12 rfl rfl _ Tryz.ntmps12 _ Tryz.results12 (by simp) fun hwf => ?_
    try simp (maxSteps := 9999999) only [go_sem]
    refine CallW.mk (c1) ?_
    try simp (maxSteps := 9999999) only [go_sem]
end DW
end Go.Proofs.YtghckbohaghgkaaGreat

/-
  The laws' helpers for lists of tours, as contracts on data.
-/
namespace Go.Proofs.YtghckbohaghgkaaGreat
open Go.RowKit
abbrev DTourS := List DTour
abbrev RTourS : Rp DTourS := Rp.slice RTour (by decide)
def tTourS : DTourS → Nat
  | [] => 0
  | x :: l => tTour x + tTourS l
theorem tTourS_snoc (l : DTourS) (x : DTour) : tTourS (l ++ [x]) = tTourS l + tTour x := by
  induction l with
  | nil => simp [tTourS]
  | cons y l ih => simp [tTourS, ih]; omega
theorem tTourS_take (l : DTourS) (k : Nat) : tTourS (l.take k) ≤ tTourS l := by
  induction l generalizing k with
  | nil => simp [tTourS]
  | cons y l ih => cases k with
    | zero => simp [tTourS]
    | succ k => have := ih k; simp [tTourS]; omega
theorem tTourS_mem {l : DTourS} {i : Nat} (h : i < l.length) : tTour l[i] ≤ tTourS l := by
  have h1 := tTourS_take l (i + 1)
  rw [List.take_succ_eq_append_getElem h, tTourS_snoc] at h1
  omega
namespace DW
@[go_sem] theorem bts_Tour : bts Tryz.prog 47 = some 168 := by kernel_rfl
theorem szTourS_fn (x : DTourS) (left : Int) (h0 : 0 ≤ left) (h1 : left ≤ 1048576) : Fn Tryz.prog 13 [⟨.slice DW.tTour, x⟩, ⟨.int, left⟩] false [⟨.int, szr left (x.length + tTourS x)⟩] := by
  by_cases h : left - (x.length : Int) < 0
  · rw [← szr_lt (by omega)]
    have d := decide_eq_true h
    refine fn_enter tabOK mixes Tryz.func13 rfl rfl _ Tryz.ntmps13 _ Tryz.results13 (by simp) fun hwf => ?_
    have hl : x.length ≤ 9223372036854775807 := (hwf ⟨.slice DW.tTour, x⟩ (by simp)).1
    try simp (maxSteps := 9999999) only [go_sem]
    repeat refine And.intro (by first|omega|(constructor<;>omega)|kernel_rfl) ?_
    try simp (maxSteps := 9999999) only [go_sem, d]
    all_goals first | kernel_rfl | omega | rfl
  · have d := decide_eq_false h
    have hr0 := szr_lo left (x.length + tTourS x) h0
    refine fn_enter tabOK mixes Tryz.func13 rfl rfl _ Tryz.ntmps13 _ Tryz.results13 (by simp) fun hwf => ?_
    have hl : x.length ≤ 9223372036854775807 := (hwf ⟨.slice DW.tTour, x⟩ (by simp)).1
    try simp (maxSteps := 9999999) only [go_sem]
    repeat refine And.intro (by first|omega|(constructor<;>omega)|kernel_rfl) ?_
    try simp (maxSteps := 9999999) only [go_sem, d]
    refine LoopG.intro _ _ _ (fun i : Nat => ⟨[(0, .sl DW.tTour x), (1, .sc (.int .i64 (szr left (x.length + tTourS (x.take i))))), (5, .sc (.int .i64 i))], []⟩) (fun i => i ≤ x.length ∧ 0 ≤ szr left (x.length + tTourS (x.take i))) (fun i => x.length - i) 0 ?_ ⟨Nat.zero_le _, by
      have e : szr left (x.length + tTourS (x.take 0)) = left - x.length := by simp [tTourS]; exact (szr_ge (by omega)).symm
      rw [e]; omega⟩ ?_
    · have e : szr left (x.length + tTourS (x.take 0)) = left - x.length := by simp [tTourS]; exact (szr_ge (by omega)).symm
      rw [e]
      refine Wk.mk [] ?_
      try simp (maxSteps := 9999999) only [go_sem]
      try (and_intros <;> first | rfl | omega | exact ⟨_, rfl⟩)
    · rintro i ⟨hi, hle⟩
      have hr1 := szr_lo left (x.length + tTourS (x.take i)) h0
      try simp (maxSteps := 9999999) only [go_sem]
      refine CondW_dec (fun hA => ?_) (fun hA => ?_)
      · have hlt : i < x.length := by omega
        have hts : tTourS (x.take i) + Go.Proofs.YtghckbohaghgkaaGreat.tTour x[i] = tTourS (x.take (i + 1)) := by rw [List.take_succ_eq_append_getElem hlt, tTourS_snoc]
        have c1 := szTour_fn (nth (t := DW.tTour) x i) (szr left (x.length + tTourS (x.take i))) hle (by omega)
        rw [nth_lt hlt, szr_add _ _ _ hle, Nat.add_assoc, hts] at c1
        rw [← nth_lt (t := DW.tTour) hlt] at c1
        have hr2 := szr_lo left (x.length + tTourS (x.take (i + 1))) h0
        by_cases e1 : szr left (x.length + tTourS (x.take (i + 1))) < 0
        · have d1 := decide_eq_true e1
          have hf := szr_fail e1 (b := x.length + tTourS x) (Nat.add_le_add_left (tTourS_take x (i + 1)) _)
          rw [← hf]
          try simp (maxSteps := 9999999) only [go_sem]
          repeat refine And.intro (by first|omega|(constructor<;>omega)|kernel_rfl) ?_
          refine CallW.mk (c1) ?_
          try simp (maxSteps := 9999999) only [go_sem]
          try simp (maxSteps := 9999999) only [go_sem, d1]
          all_goals first | kernel_rfl | omega | rfl
        · have d1 := decide_eq_false e1
          try simp (maxSteps := 9999999) only [go_sem]
          repeat refine And.intro (by first|omega|(constructor<;>omega)|kernel_rfl) ?_
          refine CallW.mk (c1) ?_
          try simp (maxSteps := 9999999) only [go_sem]
          try simp (maxSteps := 9999999) only [go_sem, d1]
          repeat refine And.intro (by first|omega|(constructor<;>omega)|kernel_rfl) ?_
          refine LoopK.mk (i + 1) ?_ ⟨by omega, by omega⟩ (by omega)
          refine Wk.mk [] ?_
          try simp (maxSteps := 9999999) only [go_sem]
          try (and_intros <;> first | rfl | omega | exact ⟨_, rfl⟩)
      · have hi2 : i = x.length := by omega
        subst hi2
        rw [List.take_length] at hr1 ⊢
        try simp (maxSteps := 9999999) only [go_sem]
        all_goals first | kernel_rfl | omega | rfl
theorem toTourS_fn (x : DTourS) (hs : x.length + tTourS x ≤ 1048576) : Fn Tryz.prog 15 [⟨.slice DW.tTour, x⟩] true [⟨.slice DW.tTour, x⟩] := by
  refine fn_enter tabOK mixes Tryz.func15 rfl rfl _ Tryz.ntmps15 _ Tryz.results15 (by simp) fun hwf => ?_
  try simp (maxSteps := 9999999) only [go_sem]
  repeat refine And.intro (by first|omega|(constructor<;>omega)|kernel_rfl) ?_
  refine LoopG.intro _ _ _ (fun i : Nat => ⟨[(0, .sl DW.tTour x), (3, .row 0 0), (4, .sc (.int .i64 i))], [(0, .row 47 DW.tTour 0 true (x.take i ++ List.replicate (x.length - i) (([], (((0 : Int), (((false, []), []), ((false, []), []))), [])) : DTour)))]⟩) (fun i => i ≤ x.length) (fun i => x.length - i) 0 ?_ (Nat.zero_le _) ?_
  · refine Wk.mk [] ?_
    try simp (maxSteps := 9999999) only [go_sem]
    try (and_intros <;> first | rfl | omega | exact ⟨_, rfl⟩)
  · rintro i hi
    have hlen : (x.take i ++ List.replicate (x.length - i) (([], (((0 : Int), (((false, []), []), ((false, []), []))), [])) : DTour)).length = x.length := by simp; omega
    try simp (maxSteps := 9999999) only [go_sem]
    refine CondW_dec (fun hA => ?_) (fun hA => ?_)
    · have hlt : i < x.length := by omega
      have hset : (x.take i ++ List.replicate (x.length - i) (([], (((0 : Int), (((false, []), []), ((false, []), []))), [])) : DTour)).set i (nth (t := DW.tTour) x i) = x.take (i + 1) ++ List.replicate (x.length - (i + 1)) (([], (((0 : Int), (((false, []), []), ((false, []), []))), [])) : DTour) := by
        rw [List.set_append_right _ _ (by rw [List.length_take]; omega), List.length_take, show i - min i x.length = 0 by omega, show x.length - i = (x.length - (i + 1)) + 1 by omega, List.replicate_succ, List.set_cons_zero, nth_lt hlt]
        have e : x.take (i + 1) = x.take i ++ [x[i]] := List.take_succ_eq_append_getElem hlt
        rw [e, List.append_assoc]; rfl
      have ht : (List.take i x).length = i := by rw [List.length_take]; omega
      have c1 := toTour_fn (nth (t := DW.tTour) x i) (by rw [nth_lt hlt]; have := tTourS_mem hlt; omega)
      try simp (maxSteps := 9999999) only [go_sem]
      repeat refine And.intro (by first|omega|(constructor<;>omega)|kernel_rfl) ?_
      refine CallW.mk (c1) ?_
      try simp (maxSteps := 9999999) only [go_sem]
      repeat refine And.intro (by first|omega|(constructor<;>omega)|kernel_rfl) ?_
      refine LoopK.mk (i + 1) ?_ (by omega) (by omega)
      rw [← hset]
      refine Wk.mk [] ?_
      try simp (maxSteps := 9999999) only [go_sem]
      try (and_intros <;> first | rfl | omega | exact ⟨_, rfl⟩)
    · have : x.take i ++ List.replicate (x.length - i) (([], (((0 : Int), (((false, []), []), ((false, []), []))), [])) : DTour) = x := by
        rw [List.take_of_length_le (by omega), show x.length - i = 0 by omega]; simp
      rw [this]
      try simp (maxSteps := 9999999) only [go_sem]
      all_goals first | kernel_rfl | omega | rfl
theorem eqTourS_fn (x y : DTourS) : Fn Tryz.prog 17 [⟨.slice DW.tTour, x⟩, ⟨.slice DW.tTour, y⟩] false [⟨.bool, eqb x y⟩] := by
  by_cases h0 : (x.length : Int) = y.length
  · have d0 := decide_eq_true h0
    refine fn_enter tabOK mixes Tryz.func17 rfl rfl _ Tryz.ntmps17 _ Tryz.results17 (by simp) fun hwf => ?_
    have hl : x.length ≤ 9223372036854775807 := (hwf ⟨.slice DW.tTour, x⟩ (by simp)).1
    try simp (maxSteps := 9999999) only [go_sem, d0]
    refine LoopG.intro _ _ _ (fun i : Nat => ⟨[(0, .sl DW.tTour x), (1, .sl DW.tTour y), (5, .sc (.int .i64 i))], []⟩) (fun i => ∀ j, j < i → j < x.length → nth (t := DW.tTour) x j = nth (t := DW.tTour) y j) (fun i => x.length - i) 0 ?_ (fun j h => absurd h (Nat.not_lt_zero _)) ?_
    · refine Wk.mk [] ?_
      try simp (maxSteps := 9999999) only [go_sem]
      try (and_intros <;> first | rfl | omega | exact ⟨_, rfl⟩)
    · rintro i hi
      try simp (maxSteps := 9999999) only [go_sem]
      refine CondW_dec (fun hA => ?_) (fun hA => ?_)
      · have c1 := eqTour_fn (nth (t := DW.tTour) x i) (nth (t := DW.tTour) y i)
        by_cases e : nth (t := DW.tTour) x i = nth (t := DW.tTour) y i
        · rw [eqb_true e] at c1
          try simp (maxSteps := 9999999) only [go_sem]
          repeat refine And.intro (by first|omega|(constructor<;>omega)|kernel_rfl) ?_
          refine CallW.mk (c1) ?_
          try simp (maxSteps := 9999999) only [go_sem]
          repeat refine And.intro (by first|omega|(constructor<;>omega)|kernel_rfl) ?_
          refine LoopK.mk (i + 1) ?_ (fun j h1 h2 => ?_) (by omega)
          · refine Wk.mk [] ?_
            try simp (maxSteps := 9999999) only [go_sem]
            try (and_intros <;> first | rfl | omega | exact ⟨_, rfl⟩)
          · by_cases h3 : j < i
            · exact hi j h3 h2
            · rw [show j = i by omega]; exact e
        · rw [eqb_false e] at c1
          rw [eqb_false (fun h => e (by rw [h]))]
          try simp (maxSteps := 9999999) only [go_sem]
          repeat refine And.intro (by first|omega|(constructor<;>omega)|kernel_rfl) ?_
          refine CallW.mk (c1) ?_
          try simp (maxSteps := 9999999) only [go_sem]
          all_goals first | kernel_rfl | omega | rfl
      · have : x = y := by
          refine List.ext_getElem (by omega) fun j h1 h2 => ?_
          have := hi j (by omega) h1
          rwa [nth_lt h1, nth_lt h2] at this
        rw [eqb_true this]
        try simp (maxSteps := 9999999) only [go_sem]
  · have d0 := decide_eq_false h0
    rw [eqb_false (fun h => h0 (by rw [h]))]
    refine fn_enter tabOK mixes Tryz.func17 rfl rfl _ Tryz.ntmps17 _ Tryz.results17 (by simp) fun hwf => ?_
    try simp (maxSteps := 9999999) only [go_sem, d0]
end DW
end Go.Proofs.YtghckbohaghgkaaGreat

/-
  The arguments' types of this program, opened: vectors and tours.
-/
namespace Go.Proofs.YtghckbohaghgkaaGreat
open Go.RowKit
section
variable {H : Type} {enc : TypeId × Value → H} {w : World} {P : Program}
theorem Opens.prod3 {α β γ : Type} {t : TypeId} {A : Rp α} {B : Rp β} {C : Rp γ} {f0 f1 f2 : Field} (ht : P.underlying t = some (.struct #[f0, f1, f2])) (o0 : f0.offset = 0) (o1 : f1.offset = A.size) (o2 : f2.offset = A.size + B.size)
    (s0 : P.cellsOf f0.type = A.size) (s1 : P.cellsOf f1.type = B.size) (s2 : P.cellsOf f2.type = C.size) (s : P.cellsOf t = A.size + (B.size + C.size)) (h0 : Opens enc P w f0.type A) (h1 : Opens enc P w f1.type B) (h2 : Opens enc P w f2.type C) : Opens enc P w t (Rp.prod A (Rp.prod B C)) := fun fuel cs x h => by
  obtain ⟨xs, n, _, _, hl, hxl, hf⟩ := DataW.trod_struct ht h
  have e0 := hf 0 f0 rfl
  have e1 := hf 1 f1 rfl
  have e2 := hf 2 f2 rfl
  have hxl' : xs.length = 3 := hxl
  rw [o0, s0, List.getElem?_eq_getElem (by omega)] at e0
  rw [o1, s1, List.getElem?_eq_getElem (by omega)] at e1
  rw [o2, s2, List.getElem?_eq_getElem (by omega)] at e2
  obtain ⟨a, fa, ra⟩ := h0 _ _ _ e0
  obtain ⟨b, fb, rb⟩ := h1 _ _ _ e1
  obtain ⟨c, fc, rc⟩ := h2 _ _ _ e2
  refine ⟨(a, b, c), fa ++ (fb ++ fc), _, cs.drop A.size, fa, fb ++ fc, ?_, rfl, ra, _, _, fb, fc, ?_, rfl, rb, rc⟩
  · rw [List.drop_zero, List.take_append_drop]
  · rw [← List.drop_drop, List.take_of_length_le (show ((cs.drop A.size).drop B.size).length ≤ C.size by simp; omega), List.take_append_drop]
theorem oVec : Opens enc Tryz.prog w 123 RVec := Opens.prod Tryz.underlying123 rfl rfl (by kernel_rfl) (by kernel_rfl) (by kernel_rfl) oInt oInt
theorem oVecS : Opens enc Tryz.prog w 22 RVecS := Opens.slice Tryz.underlying22 (by kernel_rfl) oVec
theorem oTour : Opens enc Tryz.prog w 34 RTour := Opens.prod3 Tryz.underlying34 rfl rfl rfl (by kernel_rfl) (by kernel_rfl) (by kernel_rfl) (by kernel_rfl) oVecS oPlacement oStepS
theorem oTourS : Opens enc Tryz.prog w 51 (Rp.slice RTour (by decide)) := Opens.slice Tryz.underlying51 (by kernel_rfl) oTour
end
end Go.Proofs.YtghckbohaghgkaaGreat

/-
  The law FnExactCanAdvance returns true: the walk through it on data, by the contracts.
-/
namespace Go.Proofs.YtghckbohaghgkaaGreat.DW
open Go.RowKit

set_option maxRecDepth 100000 in
set_option maxHeartbeats 8000000 in
theorem lawCanAdvance_fn (x0 : DTourS) (x1 : DIntS) (n2 : Int) : Fn Tryz.prog 7 [⟨.slice DW.tTour, x0⟩, ⟨DW.tInts, x1⟩, ⟨.int, n2⟩] false [⟨.bool, true⟩] := by
  refine fn_enter tabOK mixes Tryz.func7 rfl rfl _ Tryz.ntmps7 _ Tryz.results7 (by simp) fun hwf => ?_
  have hI2 : I64 n2 := hwf ⟨.int, n2⟩ (by simp)
  try simp (maxSteps := 9999999) only [go_sem]
  refine CondW_dec (fun hlt => ?_) (fun hge => ?_)
  · try simp (maxSteps := 9999999) only [go_sem]
  have hle1 : x1.length ≤ 1048576 := by omega
  clear hge
  try simp (maxSteps := 9999999) only [go_sem]
  refine CallW.mk (szTourS_fn x0 1048576 (by omega) (by omega)) ?_
  try simp (maxSteps := 9999999) only [go_sem]
  have hr0 := szr_lo 1048576 ((x0.length + Go.Proofs.YtghckbohaghgkaaGreat.tTourS x0)) (by omega)
  refine CondW_dec (fun hlt => ?_) (fun hge0 => ?_)
  · try simp (maxSteps := 9999999) only [go_sem]
  have hge0' : 0 ≤ szr 1048576 ((x0.length + Go.Proofs.YtghckbohaghgkaaGreat.tTourS x0)) := by omega
  have hs0 := (szr_ok hge0').1
  have hle0 : (x0.length + Go.Proofs.YtghckbohaghgkaaGreat.tTourS x0) ≤ 1048576 := by omega
  clear hr0 hs0 hge0 hge0'
  try simp (maxSteps := 9999999) only [go_sem]
  refine CallW.mk (toTourS_fn x0 hle0) ?_
  try simp (maxSteps := 9999999) only [go_sem]
  refine CallW.mk (toIntS_fn x1 hle1) ?_
  try simp (maxSteps := 9999999) only [go_sem]
  refine CallW.mk (CanAdvanceS_fn x0 x1 n2) ?_
  try simp (maxSteps := 9999999) only [go_sem]
  refine CallW.mx (toTourS_fn x0 hle0) ?_
  try simp (maxSteps := 9999999) only [go_sem]
  refine CallW.mx (toIntS_fn x1 hle1) ?_
  try simp (maxSteps := 9999999) only [go_sem]
  refine CallW.mx (CanAdvanceI_fn x0 x1 n2) ?_
  try simp (maxSteps := 9999999) only [go_sem]
  refine CallW.mk (toTourS_fn x0 hle0) ?_
  try simp (maxSteps := 9999999) only [go_sem]
  refine CallW.mx (eqTourS_fn x0 x0) ?_
  try simp (maxSteps := 9999999) only [go_sem]
  refine CallW.mk (toIntS_fn x1 hle1) ?_
  try simp (maxSteps := 9999999) only [go_sem]
  refine CallW.mx (eqIntS_fn x1 x1) ?_
  try simp (maxSteps := 9999999) only [go_sem]
  all_goals first | kernel_rfl | omega | rfl
end Go.Proofs.YtghckbohaghgkaaGreat.DW
namespace Go.Proofs.YtghckbohaghgkaaGreat
open Go.RowKit DW
theorem law_FnExactCanAdvance (a0 : Value) (x0 : DTourS) (a1 : Value) (x1 : DIntS) (n2 : Int) (w : World) (hx0 : Has RTourS w [a0] x0) (hx1 : Has RIntS w [a1] x1) (hI2 : I64 n2) :
    Calls Tryz.prog 7 #[a0, a1, .int .i64 n2] w (Post fun r w' => r = .bool true ∧ Below w.heap.size w w') :=
  (DW.lawCanAdvance_fn x0 x1 n2).bool (vs := [a0, a1, .int .i64 n2]) ⟨Arg.sl hx0, Arg.sl hx1, Arg.int hI2, trivial⟩
end Go.Proofs.YtghckbohaghgkaaGreat
