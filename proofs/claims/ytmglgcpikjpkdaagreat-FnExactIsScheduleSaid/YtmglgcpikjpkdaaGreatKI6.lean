/-
  Texts of a proof, one behind another: Dw61, LwT, LwT2, OpensT, LawIsSchedule.
-/
import Derived.Test.YtmglgcpikjpkdaaGreatKI5
set_option linter.all false
namespace Go.Proofs.YtmglgcpikjpkdaaGreat.DW
open Go.RowKit
theorem l28End_fn (l : List DT) (st : List Int) (hst : stP l st) : Fn Tryz.prog 49 [⟨.slice tTour, l⟩, ⟨tInts, st⟩] false [⟨.bool, bdec (endP l st)⟩] := by
 have hlen := hst.1
 refine fn_enter tabOK mixes Tryz.func49 rfl rfl _ Tryz.ntmps49 _ Tryz.results49 (by simp) fun hwf => ?_
 have hl : l.length<=9223372036854775807 := (hwf ⟨.slice tTour, l⟩ (by simp)).1
 try simp (maxSteps:=9^9) only[go_sem]
 refine LoopG.intro _ _ _ (fun i : Nat => ⟨[(1, .sl .int st), (7, .sl tTour l), (8, .sc (.int .i64 l.length)), (9, .sc (.int .i64 i))], []⟩) (fun i => i<=l.length/\∀ j, j < i->ni st j = (nth (t := tTour) l j).2.2.length) (fun i => l.length - i) 0 ?_ ⟨Nat.zero_le _, fun j h => absurd h (Nat.not_lt_zero _)⟩ ?_
 ·refine Wk.mk [] ?_
  try simp (maxSteps:=9^9) only[go_sem]
  try (and_intros <;> first | rfl | omega | exact ⟨_, rfl⟩)
 ·rintro i ⟨hi, hall⟩
  try simp (maxSteps:=9^9) only[go_sem]
  refine CondW_dec (fun hA => ?_) (fun hA => ?_)
  ·have hlt : i < l.length := by omega
   have hv := hst.2 i (by omega)
   unfold stAt at hv
   by_cases he : ni st i < (nth (t := tTour) l i).2.2.length
   ·have d1 := decide_eq_true he
    rw [bdec_f fun h => by have := h i hlt; omega]
    try simp (maxSteps:=9^9) only[go_sem]
    repeat refine And.intro (by first|omega|(constructor<;>omega)|kernel_rfl) ?_
    try simp (maxSteps:=9^9) only[go_sem, d1]
    all_goals repeat refine And.intro (by first|omega|(constructor<;>omega)|kernel_rfl) ?_
    all_goals first | kernel_rfl | omega | rfl
   ·have d1 := decide_eq_false he
    try simp (maxSteps:=9^9) only[go_sem]
    repeat refine And.intro (by first|omega|(constructor<;>omega)|kernel_rfl) ?_
    try simp (maxSteps:=9^9) only[go_sem, d1]
    repeat refine And.intro (by first|omega|(constructor<;>omega)|kernel_rfl) ?_
    refine LoopK.mk (i + 1) ?_ ⟨by omega, fun j hj => ?_⟩ (by omega)
    ·refine Wk.mk [] ?_
     try simp (maxSteps:=9^9) only[go_sem]
     try (and_intros <;> first | rfl | omega | exact ⟨_, rfl⟩)
    ·by_cases h : j < i
     ·exact hall j h
     ·rw [show j = i by omega]; omega
  ·rw [bdec_t (p := endP l st) fun j hj => hall j (by omega)]
   try simp (maxSteps:=9^9) only[go_sem]
   all_goals repeat refine And.intro (by first|omega|(constructor<;>omega)|kernel_rfl) ?_
   all_goals first | kernel_rfl | omega | rfl
theorem sch_bdec {l : List DT} {o st : List Int} (ha : arB l = true) (h : schGo l o (List.replicate l.length 0) = some st) : bdec (schP l o) = bdec (endP l st) := by
 by_cases he : endP l st
 ·rw [bdec_t he]; exact bdec_t ⟨ha, st, h, he⟩
 ·rw [bdec_f he]; exact bdec_f fun ⟨_, st', h', he'⟩ => by rw [h] at h'; injection h' with h'; subst h'; exact he he'
theorem sch_no {l : List DT} {o : List Int} (h : schGo l o (List.replicate l.length 0) = none) : bdec (schP l o) = false := bdec_f fun ⟨_, st', h', _⟩ => by rw [h] at h'; cases h'
set_option maxRecDepth 100000 in
set_option maxHeartbeats 1000000 in
theorem IsScheduleS_fn (l : List DT) (o : List Int) : Fn Tryz.prog 19 [⟨.slice tTour, l⟩, ⟨tInts, o⟩] false [⟨.bool, bdec (schP l o)⟩] := by
 have c0 := AreToursS_fn l
 cases ha : arB l <;> rw [ha] at c0
 ·rw [bdec_f fun h => by have := h.1; rw [ha] at this; cases this]
  refine fn_enter tabOK mixes Tryz.func19 rfl rfl _ Tryz.ntmps19 _ Tryz.results19 (by simp) fun hwf => ?_
  try simp (maxSteps:=9^9) only[go_sem]
  repeat refine And.intro (by first|omega|(constructor<;>omega)|kernel_rfl) ?_
  refine CallW.mk (c0) ?_
  try simp (maxSteps:=9^9) only[go_sem]
  all_goals repeat refine And.intro (by first|omega|(constructor<;>omega)|kernel_rfl) ?_
  all_goals first | kernel_rfl | omega | rfl
 ·have har := arB_p ha
  refine fn_enter tabOK mixes Tryz.func19 rfl rfl _ Tryz.ntmps19 _ Tryz.results19 (by simp) fun hwf => ?_
  have hol : o.length<=9223372036854775807 := (hwf ⟨tInts, o⟩ (by simp)).1
  try simp (maxSteps:=9^9) only[go_sem]
  repeat refine And.intro (by first|omega|(constructor<;>omega)|kernel_rfl) ?_
  refine CallW.mk (c0) ?_
  try simp (maxSteps:=9^9) only[go_sem]
  repeat refine And.intro (by first|omega|(constructor<;>omega)|kernel_rfl) ?_
  refine LoopG.intro _ _ _ (fun y : Nat × List Int => ⟨[(0, .sl tTour l), (5, .row 0 0), (14, .sl .int o), (15, .sc (.int .i64 o.length)), (16, .sc (.int .i64 y.1))], [(0, .row 3 .int 0 true y.2)]⟩) (fun y => y.1<=o.length/\stP l y.2/\schGo l o (List.replicate l.length 0) = schGo l (o.drop y.1) y.2) (fun y => o.length - y.1) (0, List.replicate l.length 0) ?_ ⟨Nat.zero_le _, stP_zero l, rfl⟩ ?_
  ·refine Wk.mk [] ?_
   try simp (maxSteps:=9^9) only[go_sem]
   try (and_intros <;> first | rfl | omega | exact ⟨_, rfl⟩)
  ·rintro ⟨i, st⟩ ⟨hi, hst, hgo⟩
   dsimp only at hi hst hgo
   have hlen := hst.1
   try simp (maxSteps:=9^9) only[go_sem]
   refine CondW_dec (fun hA => ?_) (fun hA => ?_)
   ·have hlt : i < o.length := by omega
    rw [drop_nth hlt] at hgo
    have c1 := l01In_fn (ni o i) 0 ((l.length : Int) - 1)
    by_cases hk : 0<=ni o i/\ni o i<=(l.length : Int) - 1
    ·rw [decide_eq_true hk] at c1
     have c2 := l28Free_fn l st (ni o i).toNat har.2 hst (by omega)
     rw [show (((ni o i).toNat : Nat) : Int) = ni o i by omega] at c2
     have hv := hst.2 (ni o i).toNat (by omega)
     unfold stAt at hv
     have h8 := (tour_parts (har.2 (ni o i).toNat (by omega)).1).2.2.2.1
     by_cases hf : frP l st (ni o i).toNat
     ·rw [bdec_t hf] at c2
      rw [schGo_t ⟨hk, hf⟩] at hgo
      try simp (maxSteps:=9^9) only[go_sem]
      repeat refine And.intro (by first|omega|(constructor<;>omega)|kernel_rfl) ?_
      refine CallW.mk (c1) ?_
      try simp (maxSteps:=9^9) only[go_sem]
      repeat refine And.intro (by first|omega|(constructor<;>omega)|kernel_rfl) ?_
      refine CallW.mk (c2) ?_
      try simp (maxSteps:=9^9) only[go_sem]
      repeat refine And.intro (by first|omega|(constructor<;>omega)|kernel_rfl) ?_
      refine LoopK.mk (i + 1, adv st (ni o i).toNat) ?_ (by exact ⟨by simp only; omega, stP_adv hst (by omega) hf.1, hgo⟩) (by simp only; omega)
      refine Wk.mk [] ?_
      try simp (maxSteps:=9^9) only[go_sem]
      try (and_intros <;> first | rfl | omega | exact ⟨_, rfl⟩)
     ·rw [bdec_f hf] at c2
      rw [schGo_f fun h => hf h.2] at hgo
      rw [sch_no hgo]
      try simp (maxSteps:=9^9) only[go_sem]
      repeat refine And.intro (by first|omega|(constructor<;>omega)|kernel_rfl) ?_
      refine CallW.mk (c1) ?_
      try simp (maxSteps:=9^9) only[go_sem]
      repeat refine And.intro (by first|omega|(constructor<;>omega)|kernel_rfl) ?_
      refine CallW.mk (c2) ?_
      try simp (maxSteps:=9^9) only[go_sem]
      all_goals repeat refine And.intro (by first|omega|(constructor<;>omega)|kernel_rfl) ?_
      all_goals first | kernel_rfl | omega | rfl
    ·rw [decide_eq_false hk] at c1
     rw [schGo_f fun h => hk h.1] at hgo
     rw [sch_no hgo]
     try simp (maxSteps:=9^9) only[go_sem]
     repeat refine And.intro (by first|omega|(constructor<;>omega)|kernel_rfl) ?_
     refine CallW.mk (c1) ?_
     try simp (maxSteps:=9^9) only[go_sem]
     all_goals repeat refine And.intro (by first|omega|(constructor<;>omega)|kernel_rfl) ?_
     all_goals first | kernel_rfl | omega | rfl
   ·have c3 := l28End_fn l st hst
    rw [List.drop_of_length_le (by omega)] at hgo
    rw [sch_bdec ha hgo]
    try simp (maxSteps:=9^9) only[go_sem]
    repeat refine And.intro (by first|omega|(constructor<;>omega)|kernel_rfl) ?_
    refine CallW.mk (c3) ?_
    try simp (maxSteps:=9^9) only[go_sem]
    all_goals repeat refine And.intro (by first|omega|(constructor<;>omega)|kernel_rfl) ?_
    all_goals first | kernel_rfl | omega | rfl
set_option maxRecDepth 100000 in
set_option maxHeartbeats 4000000 in
theorem isEnd_fn1 (l : List DT) (hl : l.length = 1) (st : List Int) (hst : stP l st) : Fn Tryz.prog 50 [⟨.ext .ref tPlanner, some (plD1 l)⟩, ⟨tState, (ni st 0, (0 : Int), (0 : Int))⟩] false [⟨.bool, bdec (endP l st)⟩] := by
 have v0 := hst.2 0 (by rw [hst.1, hl]; decide)
 unfold stAt at v0
 refine fn_enter tabOK mixes Tryz.func50 rfl rfl _ Tryz.ntmps50 _ Tryz.results50 (by simp) fun hwf => ?_
 try simp (maxSteps:=9^9) only[go_sem]
 repeat refine And.intro (by first|omega|(constructor<;>omega)|kernel_rfl) ?_
 refine LoopG.intro _ _ _ (fun y : Nat => match y with | 0 => ⟨[(3, .ptr 0 0), (10, .sl tTour l), (11, .sc (.int .i64 l.length)), (12, .sc (.int .i64 0))], [(0, .box [.sc (.int .i64 (ni st 0)), .sc (.int .i64 0), .sc (.int .i64 0)])]⟩ | _ => ⟨[(3, .ptr 0 0), (10, .sl tTour l), (11, .sc (.int .i64 l.length)), (12, .sc (.int .i64 1))], [(0, .box [.sc (.int .i64 (ni st 0)), .sc (.int .i64 0), .sc (.int .i64 0)])]⟩) (fun y => y<=1/\∀ j, j < y->ni st j = (nth (t := tTour) l j).2.2.length) (fun y => 1 - y) 0 ?_ ⟨Nat.zero_le _, fun j h => absurd h (Nat.not_lt_zero _)⟩ ?_
 ·refine Wk.mk [] ?_
  try simp (maxSteps:=9^9) only[go_sem]
  try (and_intros <;> first | rfl | omega | exact ⟨_, rfl⟩)
 ·rintro y ⟨hy, hall⟩
  obtain rfl | rfl : y = 0\/y = 1 := by omega
  ·try simp (maxSteps:=9^9) only[go_sem]
   refine CondW_dec (fun hA => ?_) (fun hA => absurd (by rw [hl]; decide) hA)
   by_cases he : ni st 0 = (nth (t := tTour) l 0).2.2.length
   ·have d1 := decide_eq_true he
    try simp (maxSteps:=9^9) only[go_sem]
    repeat refine And.intro (by first|omega|(constructor<;>omega)|kernel_rfl) ?_
    try simp (maxSteps:=9^9) only[go_sem, d1]
    repeat refine And.intro (by first|omega|(constructor<;>omega)|kernel_rfl) ?_
    refine LoopK.mk 1 ?_ ⟨by omega, fun j hj => ?_⟩ (by omega)
    ·refine Wk.mk [] ?_
     try simp (maxSteps:=9^9) only[go_sem]
     try (and_intros <;> first | rfl | omega | exact ⟨_, rfl⟩)
    ·by_cases h : j < 0
     ·exact hall j h
     ·rw [show j = 0 by omega]; exact he
   ·have d1 := decide_eq_false he
    rw [bdec_f fun h => he (h 0 (by rw [hl]; decide))]
    try simp (maxSteps:=9^9) only[go_sem]
    repeat refine And.intro (by first|omega|(constructor<;>omega)|kernel_rfl) ?_
    try simp (maxSteps:=9^9) only[go_sem, d1]
    all_goals repeat refine And.intro (by first|omega|(constructor<;>omega)|kernel_rfl) ?_
    all_goals first | kernel_rfl | omega | rfl
  ·try simp (maxSteps:=9^9) only[go_sem]
   refine CondW_dec (fun hA => by rw [hl] at hA; exact absurd hA (by decide)) (fun hA => ?_)
   rw [bdec_t (p := endP l st) fun j hj => hall j (by omega)]
   try simp (maxSteps:=9^9) only[go_sem]
   all_goals repeat refine And.intro (by first|omega|(constructor<;>omega)|kernel_rfl) ?_
   all_goals first | kernel_rfl | omega | rfl
set_option maxRecDepth 100000 in
set_option maxHeartbeats 4000000 in
theorem isEnd_fn2 (l : List DT) (hl : l.length = 2) (st : List Int) (hst : stP l st) : Fn Tryz.prog 50 [⟨.ext .ref tPlanner, some (plD2 l)⟩, ⟨tState, (ni st 0, ni st 1, (0 : Int))⟩] false [⟨.bool, bdec (endP l st)⟩] := by
 have v0 := hst.2 0 (by rw [hst.1, hl]; decide)
 unfold stAt at v0
 have v1 := hst.2 1 (by rw [hst.1, hl]; decide)
 unfold stAt at v1
 refine fn_enter tabOK mixes Tryz.func50 rfl rfl _ Tryz.ntmps50 _ Tryz.results50 (by simp) fun hwf => ?_
 try simp (maxSteps:=9^9) only[go_sem]
 repeat refine And.intro (by first|omega|(constructor<;>omega)|kernel_rfl) ?_
 refine LoopG.intro _ _ _ (fun y : Nat => match y with | 0 => ⟨[(3, .ptr 0 0), (10, .sl tTour l), (11, .sc (.int .i64 l.length)), (12, .sc (.int .i64 0))], [(0, .box [.sc (.int .i64 (ni st 0)), .sc (.int .i64 (ni st 1)), .sc (.int .i64 0)])]⟩ | 1 => ⟨[(3, .ptr 0 0), (10, .sl tTour l), (11, .sc (.int .i64 l.length)), (12, .sc (.int .i64 1))], [(0, .box [.sc (.int .i64 (ni st 0)), .sc (.int .i64 (ni st 1)), .sc (.int .i64 0)])]⟩ | _ => ⟨[(3, .ptr 0 0), (10, .sl tTour l), (11, .sc (.int .i64 l.length)), (12, .sc (.int .i64 2))], [(0, .box [.sc (.int .i64 (ni st 0)), .sc (.int .i64 (ni st 1)), .sc (.int .i64 0)])]⟩) (fun y => y<=2/\∀ j, j < y->ni st j = (nth (t := tTour) l j).2.2.length) (fun y => 2 - y) 0 ?_ ⟨Nat.zero_le _, fun j h => absurd h (Nat.not_lt_zero _)⟩ ?_
 ·refine Wk.mk [] ?_
  try simp (maxSteps:=9^9) only[go_sem]
  try (and_intros <;> first | rfl | omega | exact ⟨_, rfl⟩)
 ·rintro y ⟨hy, hall⟩
  obtain rfl | rfl | rfl : y = 0\/y = 1\/y = 2 := by omega
  ·try simp (maxSteps:=9^9) only[go_sem]
   refine CondW_dec (fun hA => ?_) (fun hA => absurd (by rw [hl]; decide) hA)
   by_cases he : ni st 0 = (nth (t := tTour) l 0).2.2.length
   ·have d1 := decide_eq_true he
    try simp (maxSteps:=9^9) only[go_sem]
    repeat refine And.intro (by first|omega|(constructor<;>omega)|kernel_rfl) ?_
    try simp (maxSteps:=9^9) only[go_sem, d1]
    repeat refine And.intro (by first|omega|(constructor<;>omega)|kernel_rfl) ?_
    refine LoopK.mk 1 ?_ ⟨by omega, fun j hj => ?_⟩ (by omega)
    ·refine Wk.mk [] ?_
     try simp (maxSteps:=9^9) only[go_sem]
     try (and_intros <;> first | rfl | omega | exact ⟨_, rfl⟩)
    ·by_cases h : j < 0
     ·exact hall j h
     ·rw [show j = 0 by omega]; exact he
   ·have d1 := decide_eq_false he
    rw [bdec_f fun h => he (h 0 (by rw [hl]; decide))]
    try simp (maxSteps:=9^9) only[go_sem]
    repeat refine And.intro (by first|omega|(constructor<;>omega)|kernel_rfl) ?_
    try simp (maxSteps:=9^9) only[go_sem, d1]
    all_goals repeat refine And.intro (by first|omega|(constructor<;>omega)|kernel_rfl) ?_
    all_goals first | kernel_rfl | omega | rfl
  ·try simp (maxSteps:=9^9) only[go_sem]
   refine CondW_dec (fun hA => ?_) (fun hA => absurd (by rw [hl]; decide) hA)
   by_cases he : ni st 1 = (nth (t := tTour) l 1).2.2.length
   ·have d1 := decide_eq_true he
    try simp (maxSteps:=9^9) only[go_sem]
    repeat refine And.intro (by first|omega|(constructor<;>omega)|kernel_rfl) ?_
    try simp (maxSteps:=9^9) only[go_sem, d1]
    repeat refine And.intro (by first|omega|(constructor<;>omega)|kernel_rfl) ?_
    refine LoopK.mk 2 ?_ ⟨by omega, fun j hj => ?_⟩ (by omega)
    ·refine Wk.mk [] ?_
     try simp (maxSteps:=9^9) only[go_sem]
     try (and_intros <;> first | rfl | omega | exact ⟨_, rfl⟩)
    ·by_cases h : j < 1
     ·exact hall j h
     ·rw [show j = 1 by omega]; exact he
   ·have d1 := decide_eq_false he
    rw [bdec_f fun h => he (h 1 (by rw [hl]; decide))]
    try simp (maxSteps:=9^9) only[go_sem]
    repeat refine And.intro (by first|omega|(constructor<;>omega)|kernel_rfl) ?_
    try simp (maxSteps:=9^9) only[go_sem, d1]
    all_goals repeat refine And.intro (by first|omega|(constructor<;>omega)|kernel_rfl) ?_
    all_goals first | kernel_rfl | omega | rfl
  ·try simp (maxSteps:=9^9) only[go_sem]
   refine CondW_dec (fun hA => by rw [hl] at hA; exact absurd hA (by decide)) (fun hA => ?_)
   rw [bdec_t (p := endP l st) fun j hj => hall j (by omega)]
   try simp (maxSteps:=9^9) only[go_sem]
   all_goals repeat refine And.intro (by first|omega|(constructor<;>omega)|kernel_rfl) ?_
   all_goals first | kernel_rfl | omega | rfl
set_option maxRecDepth 100000 in
set_option maxHeartbeats 4000000 in
theorem isEnd_fn3 (l : List DT) (hl : l.length = 3) (st : List Int) (hst : stP l st) : Fn Tryz.prog 50 [⟨.ext .ref tPlanner, some (plD3 l)⟩, ⟨tState, (ni st 0, ni st 1, ni st 2)⟩] false [⟨.bool, bdec (endP l st)⟩] := by
 have v0 := hst.2 0 (by rw [hst.1, hl]; decide)
 unfold stAt at v0
 have v1 := hst.2 1 (by rw [hst.1, hl]; decide)
 unfold stAt at v1
 have v2 := hst.2 2 (by rw [hst.1, hl]; decide)
 unfold stAt at v2
 refine fn_enter tabOK mixes Tryz.func50 rfl rfl _ Tryz.ntmps50 _ Tryz.results50 (by simp) fun hwf => ?_
 try simp (maxSteps:=9^9) only[go_sem]
 repeat refine And.intro (by first|omega|(constructor<;>omega)|kernel_rfl) ?_
 refine LoopG.intro _ _ _ (fun y : Nat => match y with | 0 => ⟨[(3, .ptr 0 0), (10, .sl tTour l), (11, .sc (.int .i64 l.length)), (12, .sc (.int .i64 0))], [(0, .box [.sc (.int .i64 (ni st 0)), .sc (.int .i64 (ni st 1)), .sc (.int .i64 (ni st 2))])]⟩ | 1 => ⟨[(3, .ptr 0 0), (10, .sl tTour l), (11, .sc (.int .i64 l.length)), (12, .sc (.int .i64 1))], [(0, .box [.sc (.int .i64 (ni st 0)), .sc (.int .i64 (ni st 1)), .sc (.int .i64 (ni st 2))])]⟩ | 2 => ⟨[(3, .ptr 0 0), (10, .sl tTour l), (11, .sc (.int .i64 l.length)), (12, .sc (.int .i64 2))], [(0, .box [.sc (.int .i64 (ni st 0)), .sc (.int .i64 (ni st 1)), .sc (.int .i64 (ni st 2))])]⟩ | _ => ⟨[(3, .ptr 0 0), (10, .sl tTour l), (11, .sc (.int .i64 l.length)), (12, .sc (.int .i64 3))], [(0, .box [.sc (.int .i64 (ni st 0)), .sc (.int .i64 (ni st 1)), .sc (.int .i64 (ni st 2))])]⟩) (fun y => y<=3/\∀ j, j < y->ni st j = (nth (t := tTour) l j).2.2.length) (fun y => 3 - y) 0 ?_ ⟨Nat.zero_le _, fun j h => absurd h (Nat.not_lt_zero _)⟩ ?_
 ·refine Wk.mk [] ?_
  try simp (maxSteps:=9^9) only[go_sem]
  try (and_intros <;> first | rfl | omega | exact ⟨_, rfl⟩)
 ·rintro y ⟨hy, hall⟩
  obtain rfl | rfl | rfl | rfl : y = 0\/y = 1\/y = 2\/y = 3 := by omega
  ·try simp (maxSteps:=9^9) only[go_sem]
   refine CondW_dec (fun hA => ?_) (fun hA => absurd (by rw [hl]; decide) hA)
   by_cases he : ni st 0 = (nth (t := tTour) l 0).2.2.length
   ·have d1 := decide_eq_true he
    try simp (maxSteps:=9^9) only[go_sem]
    repeat refine And.intro (by first|omega|(constructor<;>omega)|kernel_rfl) ?_
    try simp (maxSteps:=9^9) only[go_sem, d1]
    repeat refine And.intro (by first|omega|(constructor<;>omega)|kernel_rfl) ?_
    refine LoopK.mk 1 ?_ ⟨by omega, fun j hj => ?_⟩ (by omega)
    ·refine Wk.mk [] ?_
     try simp (maxSteps:=9^9) only[go_sem]
     try (and_intros <;> first | rfl | omega | exact ⟨_, rfl⟩)
    ·by_cases h : j < 0
     ·exact hall j h
     ·rw [show j = 0 by omega]; exact he
   ·have d1 := decide_eq_false he
    rw [bdec_f fun h => he (h 0 (by rw [hl]; decide))]
    try simp (maxSteps:=9^9) only[go_sem]
    repeat refine And.intro (by first|omega|(constructor<;>omega)|kernel_rfl) ?_
    try simp (maxSteps:=9^9) only[go_sem, d1]
    all_goals repeat refine And.intro (by first|omega|(constructor<;>omega)|kernel_rfl) ?_
    all_goals first | kernel_rfl | omega | rfl
  ·try simp (maxSteps:=9^9) only[go_sem]
   refine CondW_dec (fun hA => ?_) (fun hA => absurd (by rw [hl]; decide) hA)
   by_cases he : ni st 1 = (nth (t := tTour) l 1).2.2.length
   ·have d1 := decide_eq_true he
    try simp (maxSteps:=9^9) only[go_sem]
    repeat refine And.intro (by first|omega|(constructor<;>omega)|kernel_rfl) ?_
    try simp (maxSteps:=9^9) only[go_sem, d1]
    repeat refine And.intro (by first|omega|(constructor<;>omega)|kernel_rfl) ?_
    refine LoopK.mk 2 ?_ ⟨by omega, fun j hj => ?_⟩ (by omega)
    ·refine Wk.mk [] ?_
     try simp (maxSteps:=9^9) only[go_sem]
     try (and_intros <;> first | rfl | omega | exact ⟨_, rfl⟩)
    ·by_cases h : j < 1
     ·exact hall j h
     ·rw [show j = 1 by omega]; exact he
   ·have d1 := decide_eq_false he
    rw [bdec_f fun h => he (h 1 (by rw [hl]; decide))]
    try simp (maxSteps:=9^9) only[go_sem]
    repeat refine And.intro (by first|omega|(constructor<;>omega)|kernel_rfl) ?_
    try simp (maxSteps:=9^9) only[go_sem, d1]
    all_goals repeat refine And.intro (by first|omega|(constructor<;>omega)|kernel_rfl) ?_
    all_goals first | kernel_rfl | omega | rfl
  ·try simp (maxSteps:=9^9) only[go_sem]
   refine CondW_dec (fun hA => ?_) (fun hA => absurd (by rw [hl]; decide) hA)
   by_cases he : ni st 2 = (nth (t := tTour) l 2).2.2.length
   ·have d1 := decide_eq_true he
    try simp (maxSteps:=9^9) only[go_sem]
    repeat refine And.intro (by first|omega|(constructor<;>omega)|kernel_rfl) ?_
    try simp (maxSteps:=9^9) only[go_sem, d1]
    repeat refine And.intro (by first|omega|(constructor<;>omega)|kernel_rfl) ?_
    refine LoopK.mk 3 ?_ ⟨by omega, fun j hj => ?_⟩ (by omega)
    ·refine Wk.mk [] ?_
     try simp (maxSteps:=9^9) only[go_sem]
     try (and_intros <;> first | rfl | omega | exact ⟨_, rfl⟩)
    ·by_cases h : j < 2
     ·exact hall j h
     ·rw [show j = 2 by omega]; exact he
   ·have d1 := decide_eq_false he
    rw [bdec_f fun h => he (h 2 (by rw [hl]; decide))]
    try simp (maxSteps:=9^9) only[go_sem]
    repeat refine And.intro (by first|omega|(constructor<;>omega)|kernel_rfl) ?_
    try simp (maxSteps:=9^9) only[go_sem, d1]
    all_goals repeat refine And.intro (by first|omega|(constructor<;>omega)|kernel_rfl) ?_
    all_goals first | kernel_rfl | omega | rfl
  ·try simp (maxSteps:=9^9) only[go_sem]
   refine CondW_dec (fun hA => by rw [hl] at hA; exact absurd hA (by decide)) (fun hA => ?_)
   rw [bdec_t (p := endP l st) fun j hj => hall j (by omega)]
   try simp (maxSteps:=9^9) only[go_sem]
   all_goals repeat refine And.intro (by first|omega|(constructor<;>omega)|kernel_rfl) ?_
   all_goals first | kernel_rfl | omega | rfl
set_option maxRecDepth 100000 in
set_option maxHeartbeats 4000000 in
theorem IsScheduleI_fn (l : List DT) (o : List Int) : Fn Tryz.prog 20 [⟨.slice tTour, l⟩, ⟨tInts, o⟩] false [⟨.bool, bdec (schP l o)⟩] := by
 have c0 := AreToursI_fn l
 cases ha : arB l <;> rw [ha] at c0
 ·rw [bdec_f fun h => by have := h.1; rw [ha] at this; cases this]
  refine fn_enter tabOK mixes Tryz.func20 rfl rfl _ Tryz.ntmps20 _ Tryz.results20 (by simp) fun hwf => ?_
  try simp (maxSteps:=9^9) only[go_sem]
  repeat refine And.intro (by first|omega|(constructor<;>omega)|kernel_rfl) ?_
  refine CallW.mk (c0) ?_
  try simp (maxSteps:=9^9) only[go_sem]
  all_goals repeat refine And.intro (by first|omega|(constructor<;>omega)|kernel_rfl) ?_
  all_goals first | kernel_rfl | omega | rfl
 ·have har := arB_p ha
  obtain hl | hl | hl : l.length = 1\/l.length = 2\/l.length = 3 := by omega
  ·have cp := newPlanner_fn1 l hl
   have z0 : ni (List.replicate l.length 0) 0 = 0 := by unfold ni; rw [nth_lt (by rw [List.length_replicate, hl]; decide)]; simp
   refine fn_enter tabOK mixes Tryz.func20 rfl rfl _ Tryz.ntmps20 _ Tryz.results20 (by simp) fun hwf => ?_
   have hol : o.length<=9223372036854775807 := (hwf ⟨tInts, o⟩ (by simp)).1
   try simp (maxSteps:=9^9) only[go_sem]
   repeat refine And.intro (by first|omega|(constructor<;>omega)|kernel_rfl) ?_
   refine CallW.mk (c0) ?_
   try simp (maxSteps:=9^9) only[go_sem]
   repeat refine And.intro (by first|omega|(constructor<;>omega)|kernel_rfl) ?_
   refine CallW.mk (cp) ?_
   try simp (maxSteps:=9^9) only[go_sem]
   repeat refine And.intro (by first|omega|(constructor<;>omega)|kernel_rfl) ?_
   refine LoopG.intro _ _ _ (fun y : Nat × List Int => ⟨[(0, .sl tTour l), (5, .ref tPlanner (plD1 l) 0), (6, .ptr 0 0), (17, .sl .int o), (18, .sc (.int .i64 o.length)), (19, .sc (.int .i64 y.1))], [(0, .box [.sc (.int .i64 (ni y.2 0)), .sc (.int .i64 0), .sc (.int .i64 0)])]⟩) (fun y => y.1<=o.length/\stP l y.2/\schGo l o (List.replicate l.length 0) = schGo l (o.drop y.1) y.2) (fun y => o.length - y.1) (0, List.replicate l.length 0) ?_ ⟨Nat.zero_le _, stP_zero l, rfl⟩ ?_
   ·refine Wk.mk [] ?_
    try simp (maxSteps:=9^9) only[go_sem, z0]
    try (and_intros <;> first | rfl | omega | exact ⟨_, rfl⟩)
   ·rintro ⟨i, st⟩ ⟨hi, hst, hgo⟩
    dsimp only at hi hst hgo
    have hlen := hst.1
    try simp (maxSteps:=9^9) only[go_sem]
    refine CondW_dec (fun hA => ?_) (fun hA => ?_)
    ·have hlt : i < o.length := by omega
     rw [drop_nth hlt] at hgo
     have c1 := within_fn (ni o i) 0 ((l.length : Int) - 1)
     by_cases hk : 0<=ni o i/\ni o i<=(l.length : Int) - 1
     ·rw [decide_eq_true hk] at c1
      obtain hko : ni o i = 0 := by omega
      ·have c2 := advance_fn10 l hl st har.2 hst
       rw [hko] at c1 hgo hk
       have a0 : ni (adv st 0) 0 = ni st 0 + 1 := by rw [ni_adv (by omega)]; rfl
       by_cases hf : frP l st 0
       ·rw [bdec_t hf, cond_true] at c2
        rw [schGo_t ⟨hk, hf⟩] at hgo
        try simp (maxSteps:=9^9) only[go_sem, hko]
        repeat refine And.intro (by first|omega|(constructor<;>omega)|kernel_rfl) ?_
        refine CallW.mk (c1) ?_
        try simp (maxSteps:=9^9) only[go_sem]
        try simp (maxSteps:=9^9) only[go_sem, hko]
        repeat refine And.intro (by first|omega|(constructor<;>omega)|kernel_rfl) ?_
        refine CallW.mk (c2) ?_
        try simp (maxSteps:=9^9) only[go_sem]
        repeat refine And.intro (by first|omega|(constructor<;>omega)|kernel_rfl) ?_
        refine LoopK.mk (i + 1, adv st 0) ?_ (by exact ⟨by simp only; omega, stP_adv hst (by omega) hf.1, hgo⟩) (by simp only; omega)
        refine Wk.mk [] ?_
        try simp (maxSteps:=9^9) only[go_sem, a0]
        try (and_intros <;> first | rfl | omega | exact ⟨_, rfl⟩)
       ·rw [bdec_f hf, cond_false] at c2
        rw [schGo_f fun h => hf h.2] at hgo
        rw [sch_no hgo]
        try simp (maxSteps:=9^9) only[go_sem, hko]
        repeat refine And.intro (by first|omega|(constructor<;>omega)|kernel_rfl) ?_
        refine CallW.mk (c1) ?_
        try simp (maxSteps:=9^9) only[go_sem]
        try simp (maxSteps:=9^9) only[go_sem, hko]
        repeat refine And.intro (by first|omega|(constructor<;>omega)|kernel_rfl) ?_
        refine CallW.mk (c2) ?_
        try simp (maxSteps:=9^9) only[go_sem]
        all_goals repeat refine And.intro (by first|omega|(constructor<;>omega)|kernel_rfl) ?_
        all_goals first | kernel_rfl | omega | rfl
     ·rw [decide_eq_false hk] at c1
      rw [schGo_f fun h => hk h.1] at hgo
      rw [sch_no hgo]
      try simp (maxSteps:=9^9) only[go_sem]
      repeat refine And.intro (by first|omega|(constructor<;>omega)|kernel_rfl) ?_
      refine CallW.mk (c1) ?_
      try simp (maxSteps:=9^9) only[go_sem]
      all_goals repeat refine And.intro (by first|omega|(constructor<;>omega)|kernel_rfl) ?_
      all_goals first | kernel_rfl | omega | rfl
    ·have c3 := isEnd_fn1 l hl st hst
     rw [List.drop_of_length_le (by omega)] at hgo
     rw [sch_bdec ha hgo]
     try simp (maxSteps:=9^9) only[go_sem]
     repeat refine And.intro (by first|omega|(constructor<;>omega)|kernel_rfl) ?_
     refine CallW.mk (c3) ?_
     try simp (maxSteps:=9^9) only[go_sem]
     all_goals repeat refine And.intro (by first|omega|(constructor<;>omega)|kernel_rfl) ?_
     all_goals first | kernel_rfl | omega | rfl
  ·have cp := newPlanner_fn2 l hl
   have z0 : ni (List.replicate l.length 0) 0 = 0 := by unfold ni; rw [nth_lt (by rw [List.length_replicate, hl]; decide)]; simp
   have z1 : ni (List.replicate l.length 0) 1 = 0 := by unfold ni; rw [nth_lt (by rw [List.length_replicate, hl]; decide)]; simp
   refine fn_enter tabOK mixes Tryz.func20 rfl rfl _ Tryz.ntmps20 _ Tryz.results20 (by simp) fun hwf => ?_
   have hol : o.length<=9223372036854775807 := (hwf ⟨tInts, o⟩ (by simp)).1
   try simp (maxSteps:=9^9) only[go_sem]
   repeat refine And.intro (by first|omega|(constructor<;>omega)|kernel_rfl) ?_
   refine CallW.mk (c0) ?_
   try simp (maxSteps:=9^9) only[go_sem]
   repeat refine And.intro (by first|omega|(constructor<;>omega)|kernel_rfl) ?_
   refine CallW.mk (cp) ?_
   try simp (maxSteps:=9^9) only[go_sem]
   repeat refine And.intro (by first|omega|(constructor<;>omega)|kernel_rfl) ?_
   refine LoopG.intro _ _ _ (fun y : Nat × List Int => ⟨[(0, .sl tTour l), (5, .ref tPlanner (plD2 l) 0), (6, .ptr 0 0), (17, .sl .int o), (18, .sc (.int .i64 o.length)), (19, .sc (.int .i64 y.1))], [(0, .box [.sc (.int .i64 (ni y.2 0)), .sc (.int .i64 (ni y.2 1)), .sc (.int .i64 0)])]⟩) (fun y => y.1<=o.length/\stP l y.2/\schGo l o (List.replicate l.length 0) = schGo l (o.drop y.1) y.2) (fun y => o.length - y.1) (0, List.replicate l.length 0) ?_ ⟨Nat.zero_le _, stP_zero l, rfl⟩ ?_
   ·refine Wk.mk [] ?_
    try simp (maxSteps:=9^9) only[go_sem, z0, z1]
    try (and_intros <;> first | rfl | omega | exact ⟨_, rfl⟩)
   ·rintro ⟨i, st⟩ ⟨hi, hst, hgo⟩
    dsimp only at hi hst hgo
    have hlen := hst.1
    try simp (maxSteps:=9^9) only[go_sem]
    refine CondW_dec (fun hA => ?_) (fun hA => ?_)
    ·have hlt : i < o.length := by omega
     rw [drop_nth hlt] at hgo
     have c1 := within_fn (ni o i) 0 ((l.length : Int) - 1)
     by_cases hk : 0<=ni o i/\ni o i<=(l.length : Int) - 1
     ·rw [decide_eq_true hk] at c1
      obtain hko | hko : ni o i = 0\/ni o i = 1 := by omega
      ·have c2 := advance_fn20 l hl st har.2 hst
       rw [hko] at c1 hgo hk
       have a0 : ni (adv st 0) 0 = ni st 0 + 1 := by rw [ni_adv (by omega)]; rfl
       have a1 : ni (adv st 0) 1 = ni st 1 := by rw [ni_adv (by omega)]; rfl
       by_cases hf : frP l st 0
       ·rw [bdec_t hf, cond_true] at c2
        rw [schGo_t ⟨hk, hf⟩] at hgo
        try simp (maxSteps:=9^9) only[go_sem, hko]
        repeat refine And.intro (by first|omega|(constructor<;>omega)|kernel_rfl) ?_
        refine CallW.mk (c1) ?_
        try simp (maxSteps:=9^9) only[go_sem]
        try simp (maxSteps:=9^9) only[go_sem, hko]
        repeat refine And.intro (by first|omega|(constructor<;>omega)|kernel_rfl) ?_
        refine CallW.mk (c2) ?_
        try simp (maxSteps:=9^9) only[go_sem]
        repeat refine And.intro (by first|omega|(constructor<;>omega)|kernel_rfl) ?_
        refine LoopK.mk (i + 1, adv st 0) ?_ (by exact ⟨by simp only; omega, stP_adv hst (by omega) hf.1, hgo⟩) (by simp only; omega)
        refine Wk.mk [] ?_
        try simp (maxSteps:=9^9) only[go_sem, a0, a1]
        try (and_intros <;> first | rfl | omega | exact ⟨_, rfl⟩)
       ·rw [bdec_f hf, cond_false] at c2
        rw [schGo_f fun h => hf h.2] at hgo
        rw [sch_no hgo]
        try simp (maxSteps:=9^9) only[go_sem, hko]
        repeat refine And.intro (by first|omega|(constructor<;>omega)|kernel_rfl) ?_
        refine CallW.mk (c1) ?_
        try simp (maxSteps:=9^9) only[go_sem]
        try simp (maxSteps:=9^9) only[go_sem, hko]
        repeat refine And.intro (by first|omega|(constructor<;>omega)|kernel_rfl) ?_
        refine CallW.mk (c2) ?_
        try simp (maxSteps:=9^9) only[go_sem]
        all_goals repeat refine And.intro (by first|omega|(constructor<;>omega)|kernel_rfl) ?_
        all_goals first | kernel_rfl | omega | rfl
      ·have c2 := advance_fn21 l hl st har.2 hst
       rw [hko] at c1 hgo hk
       have a0 : ni (adv st 1) 0 = ni st 0 := by rw [ni_adv (by omega)]; rfl
       have a1 : ni (adv st 1) 1 = ni st 1 + 1 := by rw [ni_adv (by omega)]; rfl
       by_cases hf : frP l st 1
       ·rw [bdec_t hf, cond_true] at c2
        rw [schGo_t ⟨hk, hf⟩] at hgo
        try simp (maxSteps:=9^9) only[go_sem, hko]
        repeat refine And.intro (by first|omega|(constructor<;>omega)|kernel_rfl) ?_
        refine CallW.mk (c1) ?_
        try simp (maxSteps:=9^9) only[go_sem]
        try simp (maxSteps:=9^9) only[go_sem, hko]
        repeat refine And.intro (by first|omega|(constructor<;>omega)|kernel_rfl) ?_
        refine CallW.mk (c2) ?_
        try simp (maxSteps:=9^9) only[go_sem]
        repeat refine And.intro (by first|omega|(constructor<;>omega)|kernel_rfl) ?_
        refine LoopK.mk (i + 1, adv st 1) ?_ (by exact ⟨by simp only; omega, stP_adv hst (by omega) hf.1, hgo⟩) (by simp only; omega)
        refine Wk.mk [] ?_
        try simp (maxSteps:=9^9) only[go_sem, a0, a1]
        try (and_intros <;> first | rfl | omega | exact ⟨_, rfl⟩)
       ·rw [bdec_f hf, cond_false] at c2
        rw [schGo_f fun h => hf h.2] at hgo
        rw [sch_no hgo]
        try simp (maxSteps:=9^9) only[go_sem, hko]
        repeat refine And.intro (by first|omega|(constructor<;>omega)|kernel_rfl) ?_
        refine CallW.mk (c1) ?_
        try simp (maxSteps:=9^9) only[go_sem]
        try simp (maxSteps:=9^9) only[go_sem, hko]
        repeat refine And.intro (by first|omega|(constructor<;>omega)|kernel_rfl) ?_
        refine CallW.mk (c2) ?_
        try simp (maxSteps:=9^9) only[go_sem]
        all_goals repeat refine And.intro (by first|omega|(constructor<;>omega)|kernel_rfl) ?_
        all_goals first | kernel_rfl | omega | rfl
     ·rw [decide_eq_false hk] at c1
      rw [schGo_f fun h => hk h.1] at hgo
      rw [sch_no hgo]
      try simp (maxSteps:=9^9) only[go_sem]
      repeat refine And.intro (by first|omega|(constructor<;>omega)|kernel_rfl) ?_
      refine CallW.mk (c1) ?_
      try simp (maxSteps:=9^9) only[go_sem]
      all_goals repeat refine And.intro (by first|omega|(constructor<;>omega)|kernel_rfl) ?_
      all_goals first | kernel_rfl | omega | rfl
    ·have c3 := isEnd_fn2 l hl st hst
     rw [List.drop_of_length_le (by omega)] at hgo
     rw [sch_bdec ha hgo]
     try simp (maxSteps:=9^9) only[go_sem]
     repeat refine And.intro (by first|omega|(constructor<;>omega)|kernel_rfl) ?_
     refine CallW.mk (c3) ?_
     try simp (maxSteps:=9^9) only[go_sem]
     all_goals repeat refine And.intro (by first|omega|(constructor<;>omega)|kernel_rfl) ?_
     all_goals first | kernel_rfl | omega | rfl
  ·have cp := newPlanner_fn3 l hl
   have z0 : ni (List.replicate l.length 0) 0 = 0 := by unfold ni; rw [nth_lt (by rw [List.length_replicate, hl]; decide)]; simp
   have z1 : ni (List.replicate l.length 0) 1 = 0 := by unfold ni; rw [nth_lt (by rw [List.length_replicate, hl]; decide)]; simp
   have z2 : ni (List.replicate l.length 0) 2 = 0 := by unfold ni; rw [nth_lt (by rw [List.length_replicate, hl]; decide)]; simp
   refine fn_enter tabOK mixes Tryz.func20 rfl rfl _ Tryz.ntmps20 _ Tryz.results20 (by simp) fun hwf => ?_
   have hol : o.length<=9223372036854775807 := (hwf ⟨tInts, o⟩ (by simp)).1
   try simp (maxSteps:=9^9) only[go_sem]
   repeat refine And.intro (by first|omega|(constructor<;>omega)|kernel_rfl) ?_
   refine CallW.mk (c0) ?_
   try simp (maxSteps:=9^9) only[go_sem]
   repeat refine And.intro (by first|omega|(constructor<;>omega)|kernel_rfl) ?_
   refine CallW.mk (cp) ?_
   try simp (maxSteps:=9^9) only[go_sem]
   repeat refine And.intro (by first|omega|(constructor<;>omega)|kernel_rfl) ?_
   refine LoopG.intro _ _ _ (fun y : Nat × List Int => ⟨[(0, .sl tTour l), (5, .ref tPlanner (plD3 l) 0), (6, .ptr 0 0), (17, .sl .int o), (18, .sc (.int .i64 o.length)), (19, .sc (.int .i64 y.1))], [(0, .box [.sc (.int .i64 (ni y.2 0)), .sc (.int .i64 (ni y.2 1)), .sc (.int .i64 (ni y.2 2))])]⟩) (fun y => y.1<=o.length/\stP l y.2/\schGo l o (List.replicate l.length 0) = schGo l (o.drop y.1) y.2) (fun y => o.length - y.1) (0, List.replicate l.length 0) ?_ ⟨Nat.zero_le _, stP_zero l, rfl⟩ ?_
   ·refine Wk.mk [] ?_
    try simp (maxSteps:=9^9) only[go_sem, z0, z1, z2]
    try (and_intros <;> first | rfl | omega | exact ⟨_, rfl⟩)
   ·rintro ⟨i, st⟩ ⟨hi, hst, hgo⟩
    dsimp only at hi hst hgo
    have hlen := hst.1
    try simp (maxSteps:=9^9) only[go_sem]
    refine CondW_dec (fun hA => ?_) (fun hA => ?_)
    ·have hlt : i < o.length := by omega
     rw [drop_nth hlt] at hgo
     have c1 := within_fn (ni o i) 0 ((l.length : Int) - 1)
     by_cases hk : 0<=ni o i/\ni o i<=(l.length : Int) - 1
     ·rw [decide_eq_true hk] at c1
      obtain hko | hko | hko : ni o i = 0\/ni o i = 1\/ni o i = 2 := by omega
      ·have c2 := advance_fn30 l hl st har.2 hst
       rw [hko] at c1 hgo hk
       have a0 : ni (adv st 0) 0 = ni st 0 + 1 := by rw [ni_adv (by omega)]; rfl
       have a1 : ni (adv st 0) 1 = ni st 1 := by rw [ni_adv (by omega)]; rfl
       have a2 : ni (adv st 0) 2 = ni st 2 := by rw [ni_adv (by omega)]; rfl
       by_cases hf : frP l st 0
       ·rw [bdec_t hf, cond_true] at c2
        rw [schGo_t ⟨hk, hf⟩] at hgo
        try simp (maxSteps:=9^9) only[go_sem, hko]
        repeat refine And.intro (by first|omega|(constructor<;>omega)|kernel_rfl) ?_
        refine CallW.mk (c1) ?_
        try simp (maxSteps:=9^9) only[go_sem]
        try simp (maxSteps:=9^9) only[go_sem, hko]
        repeat refine And.intro (by first|omega|(constructor<;>omega)|kernel_rfl) ?_
        refine CallW.mk (c2) ?_
        try simp (maxSteps:=9^9) only[go_sem]
        repeat refine And.intro (by first|omega|(constructor<;>omega)|kernel_rfl) ?_
        refine LoopK.mk (i + 1, adv st 0) ?_ (by exact ⟨by simp only; omega, stP_adv hst (by omega) hf.1, hgo⟩) (by simp only; omega)
        refine Wk.mk [] ?_
        try simp (maxSteps:=9^9) only[go_sem, a0, a1, a2]
        try (and_intros <;> first | rfl | omega | exact ⟨_, rfl⟩)
       ·rw [bdec_f hf, cond_false] at c2
        rw [schGo_f fun h => hf h.2] at hgo
        rw [sch_no hgo]
        try simp (maxSteps:=9^9) only[go_sem, hko]
        repeat refine And.intro (by first|omega|(constructor<;>omega)|kernel_rfl) ?_
        refine CallW.mk (c1) ?_
        try simp (maxSteps:=9^9) only[go_sem]
        try simp (maxSteps:=9^9) only[go_sem, hko]
        repeat refine And.intro (by first|omega|(constructor<;>omega)|kernel_rfl) ?_
        refine CallW.mk (c2) ?_
        try simp (maxSteps:=9^9) only[go_sem]
        all_goals repeat refine And.intro (by first|omega|(constructor<;>omega)|kernel_rfl) ?_
        all_goals first | kernel_rfl | omega | rfl
      ·have c2 := advance_fn31 l hl st har.2 hst
       rw [hko] at c1 hgo hk
       have a0 : ni (adv st 1) 0 = ni st 0 := by rw [ni_adv (by omega)]; rfl
       have a1 : ni (adv st 1) 1 = ni st 1 + 1 := by rw [ni_adv (by omega)]; rfl
       have a2 : ni (adv st 1) 2 = ni st 2 := by rw [ni_adv (by omega)]; rfl
       by_cases hf : frP l st 1
       ·rw [bdec_t hf, cond_true] at c2
        rw [schGo_t ⟨hk, hf⟩] at hgo
        try simp (maxSteps:=9^9) only[go_sem, hko]
        repeat refine And.intro (by first|omega|(constructor<;>omega)|kernel_rfl) ?_
        refine CallW.mk (c1) ?_
        try simp (maxSteps:=9^9) only[go_sem]
        try simp (maxSteps:=9^9) only[go_sem, hko]
        repeat refine And.intro (by first|omega|(constructor<;>omega)|kernel_rfl) ?_
        refine CallW.mk (c2) ?_
        try simp (maxSteps:=9^9) only[go_sem]
        repeat refine And.intro (by first|omega|(constructor<;>omega)|kernel_rfl) ?_
        refine LoopK.mk (i + 1, adv st 1) ?_ (by exact ⟨by simp only; omega, stP_adv hst (by omega) hf.1, hgo⟩) (by simp only; omega)
        refine Wk.mk [] ?_
        try simp (maxSteps:=9^9) only[go_sem, a0, a1, a2]
        try (and_intros <;> first | rfl | omega | exact ⟨_, rfl⟩)
       ·rw [bdec_f hf, cond_false] at c2
        rw [schGo_f fun h => hf h.2] at hgo
        rw [sch_no hgo]
        try simp (maxSteps:=9^9) only[go_sem, hko]
        repeat refine And.intro (by first|omega|(constructor<;>omega)|kernel_rfl) ?_
        refine CallW.mk (c1) ?_
        try simp (maxSteps:=9^9) only[go_sem]
        try simp (maxSteps:=9^9) only[go_sem, hko]
        repeat refine And.intro (by first|omega|(constructor<;>omega)|kernel_rfl) ?_
        refine CallW.mk (c2) ?_
        try simp (maxSteps:=9^9) only[go_sem]
        all_goals repeat refine And.intro (by first|omega|(constructor<;>omega)|kernel_rfl) ?_
        all_goals first | kernel_rfl | omega | rfl
      ·have c2 := advance_fn32 l hl st har.2 hst
       rw [hko] at c1 hgo hk
       have a0 : ni (adv st 2) 0 = ni st 0 := by rw [ni_adv (by omega)]; rfl
       have a1 : ni (adv st 2) 1 = ni st 1 := by rw [ni_adv (by omega)]; rfl
       have a2 : ni (adv st 2) 2 = ni st 2 + 1 := by rw [ni_adv (by omega)]; rfl
       by_cases hf : frP l st 2
       ·rw [bdec_t hf, cond_true] at c2
        rw [schGo_t ⟨hk, hf⟩] at hgo
        try simp (maxSteps:=9^9) only[go_sem, hko]
        repeat refine And.intro (by first|omega|(constructor<;>omega)|kernel_rfl) ?_
        refine CallW.mk (c1) ?_
        try simp (maxSteps:=9^9) only[go_sem]
        try simp (maxSteps:=9^9) only[go_sem, hko]
        repeat refine And.intro (by first|omega|(constructor<;>omega)|kernel_rfl) ?_
        refine CallW.mk (c2) ?_
        try simp (maxSteps:=9^9) only[go_sem]
        repeat refine And.intro (by first|omega|(constructor<;>omega)|kernel_rfl) ?_
        refine LoopK.mk (i + 1, adv st 2) ?_ (by exact ⟨by simp only; omega, stP_adv hst (by omega) hf.1, hgo⟩) (by simp only; omega)
        refine Wk.mk [] ?_
        try simp (maxSteps:=9^9) only[go_sem, a0, a1, a2]
        try (and_intros <;> first | rfl | omega | exact ⟨_, rfl⟩)
       ·rw [bdec_f hf, cond_false] at c2
        rw [schGo_f fun h => hf h.2] at hgo
        rw [sch_no hgo]
        try simp (maxSteps:=9^9) only[go_sem, hko]
        repeat refine And.intro (by first|omega|(constructor<;>omega)|kernel_rfl) ?_
        refine CallW.mk (c1) ?_
        try simp (maxSteps:=9^9) only[go_sem]
        try simp (maxSteps:=9^9) only[go_sem, hko]
        repeat refine And.intro (by first|omega|(constructor<;>omega)|kernel_rfl) ?_
        refine CallW.mk (c2) ?_
        try simp (maxSteps:=9^9) only[go_sem]
        all_goals repeat refine And.intro (by first|omega|(constructor<;>omega)|kernel_rfl) ?_
        all_goals first | kernel_rfl | omega | rfl
     ·rw [decide_eq_false hk] at c1
      rw [schGo_f fun h => hk h.1] at hgo
      rw [sch_no hgo]
      try simp (maxSteps:=9^9) only[go_sem]
      repeat refine And.intro (by first|omega|(constructor<;>omega)|kernel_rfl) ?_
      refine CallW.mk (c1) ?_
      try simp (maxSteps:=9^9) only[go_sem]
      all_goals repeat refine And.intro (by first|omega|(constructor<;>omega)|kernel_rfl) ?_
      all_goals first | kernel_rfl | omega | rfl
    ·have c3 := isEnd_fn3 l hl st hst
     rw [List.drop_of_length_le (by omega)] at hgo
     rw [sch_bdec ha hgo]
     try simp (maxSteps:=9^9) only[go_sem]
     repeat refine And.intro (by first|omega|(constructor<;>omega)|kernel_rfl) ?_
     refine CallW.mk (c3) ?_
     try simp (maxSteps:=9^9) only[go_sem]
     all_goals repeat refine And.intro (by first|omega|(constructor<;>omega)|kernel_rfl) ?_
     all_goals first | kernel_rfl | omega | rfl
end Go.Proofs.YtmglgcpikjpkdaaGreat.DW

namespace Go.Proofs.YtmglgcpikjpkdaaGreat
open Go.RowKit
abbrev DVec := Int × Int
abbrev RVec : Rp DVec := Rp.prod Rp.int Rp.int
abbrev DVecS := List DVec
abbrev RVecS : Rp DVecS := Rp.slice RVec (by decide)
abbrev DTour := DVecS × (DPlacement × DStepS)
abbrev RTour : Rp DTour := Rp.prod RVecS (Rp.prod RPlacement RStepS)
def tTour (x : DTour) : Nat := (x.1.length + tPlacement x.2.1) + (x.2.2.length + tStepS x.2.2)
namespace DW
theorem szVecS_fn (x : DVecS) (left : Int) (h0 : 0<=left) (h1 : left<=1048576) : Fn Tryz.prog 72 [⟨.slice DW.tVec, x⟩, ⟨.int, left⟩] false [⟨.int, szr left x.length⟩] := by
 by_cases h : (x.length : Int)<=left
 ·rw [<-szr_ge h]
  have d := decide_eq_false (p := left - (x.length : Int) < 0) (by omega)
  refine fn_enter tabOK mixes Tryz.func72 rfl rfl _ Tryz.ntmps72 _ Tryz.results72 (by simp) fun hwf => ?_
  have hl : x.length<=9223372036854775807 := (hwf ⟨.slice DW.tVec, x⟩ (by simp)).1
  try simp (maxSteps:=9^9) only[go_sem]
  repeat refine And.intro (by first|omega|(constructor<;>omega)|kernel_rfl) ?_
  try simp (maxSteps:=9^9) only[go_sem, d]
  all_goals first | kernel_rfl | omega | rfl
 ·rw [<-szr_lt (by omega)]
  have d := decide_eq_true (p := left - (x.length : Int) < 0) (by omega)
  refine fn_enter tabOK mixes Tryz.func72 rfl rfl _ Tryz.ntmps72 _ Tryz.results72 (by simp) fun hwf => ?_
  have hl : x.length<=9223372036854775807 := (hwf ⟨.slice DW.tVec, x⟩ (by simp)).1
  try simp (maxSteps:=9^9) only[go_sem]
  repeat refine And.intro (by first|omega|(constructor<;>omega)|kernel_rfl) ?_
  try simp (maxSteps:=9^9) only[go_sem, d]
  all_goals first | kernel_rfl | omega | rfl
theorem toVec_fn (x : DVec) : Fn Tryz.prog 122 [⟨DW.tVec, x⟩] false [⟨DW.tVec, x⟩] := by
 refine fn_enter tabOK mixes Tryz.func122 rfl rfl _ Tryz.ntmps122 _ Tryz.results122 (by simp) fun hwf => ?_
 try simp (maxSteps:=9^9) only[go_sem]
 all_goals first | kernel_rfl | omega | rfl
theorem toVecS_fn (x : DVecS) (hs : x.length<=1048576) : Fn Tryz.prog 78 [⟨.slice DW.tVec, x⟩] true [⟨.slice DW.tVec, x⟩] := by
 refine fn_enter tabOK mixes Tryz.func78 rfl rfl _ Tryz.ntmps78 _ Tryz.results78 (by simp) fun hwf => ?_
 try simp (maxSteps:=9^9) only[go_sem]
 repeat refine And.intro (by first|omega|(constructor<;>omega)|kernel_rfl) ?_
 refine LoopG.intro _ _ _ (fun i : Nat => ⟨[(0, .sl DW.tVec x), (3, .row 0 0), (4, .sc (.int .i64 i))], [(0, .row 99 DW.tVec 0 true (x.take i ++ List.replicate (x.length - i) ((0 : Int), (0 : Int))))]⟩) (fun i => i<=x.length) (fun i => x.length - i) 0 ?_ (Nat.zero_le _) ?_
 ·refine Wk.mk [] ?_
  try simp (maxSteps:=9^9) only[go_sem]
  try (and_intros <;> first | rfl | omega | exact ⟨_, rfl⟩)
 ·rintro i hi
  have hlen : (x.take i ++ List.replicate (x.length - i) ((0 : Int), (0 : Int))).length = x.length := by simp; omega
  try simp (maxSteps:=9^9) only[go_sem]
  refine CondW_dec (fun hA => ?_) (fun hA => ?_)
  ·have hset : (x.take i ++ List.replicate (x.length - i) ((0 : Int), (0 : Int))).set i (nth (t := DW.tVec) x i) = x.take (i + 1) ++ List.replicate (x.length - (i + 1)) ((0 : Int), (0 : Int)) := by
    have hlt : i < x.length := by omega
    rw [List.set_append_right _ _ (by rw [List.length_take]; omega), List.length_take, show i - min i x.length = 0 by omega, show x.length - i = (x.length - (i + 1)) + 1 by omega, List.replicate_succ, List.set_cons_zero, nth_lt hlt]
    have e : x.take (i + 1) = x.take i ++ [x[i]] := List.take_succ_eq_append_getElem hlt
    rw [e, List.append_assoc]; rfl
   have ht : (List.take i x).length = i := by rw [List.length_take]; omega
   have c1 := toVec_fn (nth (t := DW.tVec) x i)
   try simp (maxSteps:=9^9) only[go_sem]
   repeat refine And.intro (by first|omega|(constructor<;>omega)|kernel_rfl) ?_
   refine CallW.mk (c1) ?_
   try simp (maxSteps:=9^9) only[go_sem]
   repeat refine And.intro (by first|omega|(constructor<;>omega)|kernel_rfl) ?_
   refine LoopK.mk (i + 1) ?_ (by omega) (by omega)
   rw [<-hset]
   refine Wk.mk [] ?_
   try simp (maxSteps:=9^9) only[go_sem]
   try (and_intros <;> first | rfl | omega | exact ⟨_, rfl⟩)
  ·have : x.take i ++ List.replicate (x.length - i) ((0 : Int), (0 : Int)) = x := by
    rw [List.take_of_length_le (by omega), show x.length - i = 0 by omega]; simp
   rw [this]
   try simp (maxSteps:=9^9) only[go_sem]
   all_goals first | kernel_rfl | omega | rfl
theorem eqVec_fn (x y : DVec) : Fn Tryz.prog 125 [⟨DW.tVec, x⟩, ⟨DW.tVec, y⟩] false [⟨.bool, eqb x y⟩] := by
 by_cases h1 : x.1 = y.1
 ·have d1 := decide_eq_true h1
  by_cases h2 : x.2 = y.2
  ·have d2 := decide_eq_true h2
   rw [eqb_true (Prod.ext h1 h2)]
   refine fn_enter tabOK mixes Tryz.func125 rfl rfl _ Tryz.ntmps125 _ Tryz.results125 (by simp) fun hwf => ?_
   try simp (maxSteps:=9^9) only[go_sem, d1, d2]
  ·have d2 := decide_eq_false h2
   rw [eqb_false (fun h => h2 (by rw [h]))]
   refine fn_enter tabOK mixes Tryz.func125 rfl rfl _ Tryz.ntmps125 _ Tryz.results125 (by simp) fun hwf => ?_
   try simp (maxSteps:=9^9) only[go_sem, d1, d2]
 ·have d1 := decide_eq_false h1
  rw [eqb_false (fun h => h1 (by rw [h]))]
  refine fn_enter tabOK mixes Tryz.func125 rfl rfl _ Tryz.ntmps125 _ Tryz.results125 (by simp) fun hwf => ?_
  try simp (maxSteps:=9^9) only[go_sem, d1]
theorem eqVecS_fn (x y : DVecS) : Fn Tryz.prog 81 [⟨.slice DW.tVec, x⟩, ⟨.slice DW.tVec, y⟩] false [⟨.bool, eqb x y⟩] := by
 by_cases h0 : (x.length : Int) = y.length
 ·have d0 := decide_eq_true h0
  refine fn_enter tabOK mixes Tryz.func81 rfl rfl _ Tryz.ntmps81 _ Tryz.results81 (by simp) fun hwf => ?_
  have hl : x.length<=9223372036854775807 := (hwf ⟨.slice DW.tVec, x⟩ (by simp)).1
  try simp (maxSteps:=9^9) only[go_sem, d0]
  refine LoopG.intro _ _ _ (fun i : Nat => ⟨[(0, .sl DW.tVec x), (1, .sl DW.tVec y), (5, .sc (.int .i64 i))], []⟩) (fun i => ∀ j, j < i->j < x.length->nth (t := DW.tVec) x j = nth (t := DW.tVec) y j) (fun i => x.length - i) 0 ?_ (fun j h => absurd h (Nat.not_lt_zero _)) ?_
  ·refine Wk.mk [] ?_
   try simp (maxSteps:=9^9) only[go_sem]
   try (and_intros <;> first | rfl | omega | exact ⟨_, rfl⟩)
  ·rintro i hi
   try simp (maxSteps:=9^9) only[go_sem]
   refine CondW_dec (fun hA => ?_) (fun hA => ?_)
   ·have c1 := eqVec_fn (nth (t := DW.tVec) x i) (nth (t := DW.tVec) y i)
    by_cases e : nth (t := DW.tVec) x i = nth (t := DW.tVec) y i
    ·rw [eqb_true e] at c1
     try simp (maxSteps:=9^9) only[go_sem]
     repeat refine And.intro (by first|omega|(constructor<;>omega)|kernel_rfl) ?_
     refine CallW.mk (c1) ?_
     try simp (maxSteps:=9^9) only[go_sem]
     repeat refine And.intro (by first|omega|(constructor<;>omega)|kernel_rfl) ?_
     refine LoopK.mk (i + 1) ?_ (fun j h1 h2 => ?_) (by omega)
     ·refine Wk.mk [] ?_
      try simp (maxSteps:=9^9) only[go_sem]
      try (and_intros <;> first | rfl | omega | exact ⟨_, rfl⟩)
     ·by_cases h3 : j < i
      ·exact hi j h3 h2
      ·rw [show j = i by omega]; exact e
    ·rw [eqb_false e] at c1
     rw [eqb_false (fun h => e (by rw [h]))]
     try simp (maxSteps:=9^9) only[go_sem]
     repeat refine And.intro (by first|omega|(constructor<;>omega)|kernel_rfl) ?_
     refine CallW.mk (c1) ?_
     try simp (maxSteps:=9^9) only[go_sem]
     all_goals first | kernel_rfl | omega | rfl
   ·have : x = y := by
     refine List.ext_getElem (by omega) fun j h1 h2 => ?_
     have := hi j (by omega) h1
     rwa [nth_lt h1, nth_lt h2] at this
    rw [eqb_true this]
    try simp (maxSteps:=9^9) only[go_sem]
 ·have d0 := decide_eq_false h0
  rw [eqb_false (fun h => h0 (by rw [h]))]
  refine fn_enter tabOK mixes Tryz.func81 rfl rfl _ Tryz.ntmps81 _ Tryz.results81 (by simp) fun hwf => ?_
  try simp (maxSteps:=9^9) only[go_sem, d0]
theorem szTour_fn (x : DTour) (left : Int) (h0 : 0<=left) (h1 : left<=1048576) : Fn Tryz.prog 38 [⟨DW.tTour, x⟩, ⟨.int, left⟩] false [⟨.int, szr left (Go.Proofs.YtmglgcpikjpkdaaGreat.tTour x)⟩] := by
 obtain ⟨r, p, l⟩ := x
 have c1 := szVecS_fn r left h0 h1
 have r1 := szr_lo left r.length h0
 have hT : Go.Proofs.YtmglgcpikjpkdaaGreat.tTour (r, p, l) = (r.length + tPlacement p) + (l.length + tStepS l) := rfl
 by_cases e1 : szr left r.length < 0
 ·have d1 := decide_eq_true e1
  rw [<-szr_fail e1 (b := Go.Proofs.YtmglgcpikjpkdaaGreat.tTour (r, p, l)) (by omega)]
  refine fn_enter tabOK mixes Tryz.func38 rfl rfl _ Tryz.ntmps38 _ Tryz.results38 (by simp) fun hwf => ?_
  try simp (maxSteps:=9^9) only[go_sem]
  refine CallW.mk (c1) ?_
  try simp (maxSteps:=9^9) only[go_sem]
  try simp (maxSteps:=9^9) only[go_sem, d1]
  all_goals first | kernel_rfl | omega | rfl
 ·have d1 := decide_eq_false e1
  have c2 := szPlacement_fn p (szr left r.length) (by omega) (by omega)
  have r2 := szr_lo (szr left r.length) (tPlacement p) (by omega)
  have a2 := szr_add left r.length (tPlacement p) (by omega)
  by_cases e2 : szr (szr left r.length) (tPlacement p) < 0
  ·have d2 := decide_eq_true e2
   rw [<-szr_fail (by rw [<-a2]; exact e2) (a := r.length + tPlacement p) (b := Go.Proofs.YtmglgcpikjpkdaaGreat.tTour (r, p, l)) (by omega)]
   refine fn_enter tabOK mixes Tryz.func38 rfl rfl _ Tryz.ntmps38 _ Tryz.results38 (by simp) fun hwf => ?_
   try simp (maxSteps:=9^9) only[go_sem]
   refine CallW.mk (c1) ?_
   try simp (maxSteps:=9^9) only[go_sem]
   try simp (maxSteps:=9^9) only[go_sem, d1]
   refine CallW.mk (c2) ?_
   try simp (maxSteps:=9^9) only[go_sem]
   try simp (maxSteps:=9^9) only[go_sem, d2]
   all_goals first | kernel_rfl | omega | rfl
  ·have d2 := decide_eq_false e2
   have c3 := szStepS_fn l (szr (szr left r.length) (tPlacement p)) (by omega) (by omega)
   have r3 := szr_lo (szr (szr left r.length) (tPlacement p)) (l.length + tStepS l) (by omega)
   have a3 := szr_add left (r.length + tPlacement p) (l.length + tStepS l) (by rw [<-a2]; omega)
   rw [<-a2] at a3
   rw [hT, <-a3]
   by_cases e3 : szr (szr (szr left r.length) (tPlacement p)) (l.length + tStepS l) < 0
   ·have d3 := decide_eq_true e3
    have e4 : szr (szr (szr left r.length) (tPlacement p)) (l.length + tStepS l) = -1 := by omega
    rw [e4] at d3 c3 ⊢
    refine fn_enter tabOK mixes Tryz.func38 rfl rfl _ Tryz.ntmps38 _ Tryz.results38 (by simp) fun hwf => ?_
    try simp (maxSteps:=9^9) only[go_sem]
    refine CallW.mk (c1) ?_
    try simp (maxSteps:=9^9) only[go_sem]
    try simp (maxSteps:=9^9) only[go_sem, d1]
    refine CallW.mk (c2) ?_
    try simp (maxSteps:=9^9) only[go_sem]
    try simp (maxSteps:=9^9) only[go_sem, d2]
    refine CallW.mk (c3) ?_
    try simp (maxSteps:=9^9) only[go_sem]
    all_goals first | kernel_rfl | omega | rfl
   ·have d3 := decide_eq_false e3
    refine fn_enter tabOK mixes Tryz.func38 rfl rfl _ Tryz.ntmps38 _ Tryz.results38 (by simp) fun hwf => ?_
    try simp (maxSteps:=9^9) only[go_sem]
    refine CallW.mk (c1) ?_
    try simp (maxSteps:=9^9) only[go_sem]
    try simp (maxSteps:=9^9) only[go_sem, d1]
    refine CallW.mk (c2) ?_
    try simp (maxSteps:=9^9) only[go_sem]
    try simp (maxSteps:=9^9) only[go_sem, d2]
    refine CallW.mk (c3) ?_
    try simp (maxSteps:=9^9) only[go_sem]
    try simp (maxSteps:=9^9) only[go_sem, d3]
    all_goals first | kernel_rfl | omega | rfl
theorem toTour_fn (x : DTour) (hs : Go.Proofs.YtmglgcpikjpkdaaGreat.tTour x<=1048576) : Fn Tryz.prog 43 [⟨DW.tTour, x⟩] true [⟨DW.tTour, x⟩] := by
 obtain ⟨r, p, l⟩ := x
 have hT : Go.Proofs.YtmglgcpikjpkdaaGreat.tTour (r, p, l) = (r.length + tPlacement p) + (l.length + tStepS l) := rfl
 have c1 := toVecS_fn r (by omega)
 have c2 := toPlacement_fn p (by omega)
 have c3 := toStepS_fn l (by omega)
 refine fn_enter tabOK mixes Tryz.func43 rfl rfl _ Tryz.ntmps43 _ Tryz.results43 (by simp) fun hwf => ?_
 try simp (maxSteps:=9^9) only[go_sem]
 refine CallW.mk (c1) ?_
 try simp (maxSteps:=9^9) only[go_sem]
 refine CallW.mk (c2) ?_
 try simp (maxSteps:=9^9) only[go_sem]
 refine CallW.mk (c3) ?_
 try simp (maxSteps:=9^9) only[go_sem]
 all_goals first | kernel_rfl | omega | rfl
theorem eqTour_fn (x y : DTour) : Fn Tryz.prog 48 [⟨DW.tTour, x⟩, ⟨DW.tTour, y⟩] false [⟨.bool, eqb x y⟩] := by
 obtain ⟨r, p, l⟩ := x
 obtain ⟨r', p', l'⟩ := y
 have c1 := eqVecS_fn r r'
 have c2 := eqPlacement_fn p p'
 have c3 := eqStepS_fn l l'
 by_cases e1 : r = r'
 ·rw [eqb_true e1] at c1
  by_cases e2 : p = p'
  ·rw [eqb_true e2] at c2
   by_cases e3 : l = l'
   ·rw [eqb_true e3] at c3
    rw [eqb_true (by rw [e1, e2, e3])]
    refine fn_enter tabOK mixes Tryz.func48 rfl rfl _ Tryz.ntmps48 _ Tryz.results48 (by simp) fun hwf => ?_
    try simp (maxSteps:=9^9) only[go_sem]
    refine CallW.mk (c1) ?_
    try simp (maxSteps:=9^9) only[go_sem]
    refine CallW.mk (c2) ?_
    try simp (maxSteps:=9^9) only[go_sem]
    refine CallW.mk (c3) ?_
    try simp (maxSteps:=9^9) only[go_sem]
   ·rw [eqb_false e3] at c3
    rw [eqb_false (fun h => e3 (congrArg (fun z => z.2.2) h))]
    refine fn_enter tabOK mixes Tryz.func48 rfl rfl _ Tryz.ntmps48 _ Tryz.results48 (by simp) fun hwf => ?_
    try simp (maxSteps:=9^9) only[go_sem]
    refine CallW.mk (c1) ?_
    try simp (maxSteps:=9^9) only[go_sem]
    refine CallW.mk (c2) ?_
    try simp (maxSteps:=9^9) only[go_sem]
    refine CallW.mk (c3) ?_
    try simp (maxSteps:=9^9) only[go_sem]
  ·rw [eqb_false e2] at c2
   rw [eqb_false (fun h => e2 (congrArg (fun z => z.2.1) h))]
   refine fn_enter tabOK mixes Tryz.func48 rfl rfl _ Tryz.ntmps48 _ Tryz.results48 (by simp) fun hwf => ?_
   try simp (maxSteps:=9^9) only[go_sem]
   refine CallW.mk (c1) ?_
   try simp (maxSteps:=9^9) only[go_sem]
   refine CallW.mk (c2) ?_
   try simp (maxSteps:=9^9) only[go_sem]
 ·rw [eqb_false e1] at c1
  rw [eqb_false (fun h => e1 (congrArg (fun z => z.1) h))]
  refine fn_enter tabOK mixes Tryz.func48 rfl rfl _ Tryz.ntmps48 _ Tryz.results48 (by simp) fun hwf => ?_
  try simp (maxSteps:=9^9) only[go_sem]
  refine CallW.mk (c1) ?_
  try simp (maxSteps:=9^9) only[go_sem]
end DW
end Go.Proofs.YtmglgcpikjpkdaaGreat

namespace Go.Proofs.YtmglgcpikjpkdaaGreat
open Go.RowKit
abbrev DTourS := List DTour
abbrev RTourS : Rp DTourS := Rp.slice RTour (by decide)
def tTourS : DTourS->Nat
 | [] => 0
 | x :: l => tTour x + tTourS l
theorem tTourS_snoc (l : DTourS) (x : DTour) : tTourS (l ++ [x]) = tTourS l + tTour x := by
 induction l with
 | nil => simp [tTourS]
 | cons y l ih => simp [tTourS, ih]; omega
theorem tTourS_take (l : DTourS) (k : Nat) : tTourS (l.take k)<=tTourS l := by
 induction l generalizing k with
 | nil => simp [tTourS]
 | cons y l ih => cases k with
  | zero => simp [tTourS]
  | succ k => have := ih k; simp [tTourS]; omega
theorem tTourS_mem {l : DTourS} {i : Nat} (h : i < l.length) : tTour l[i]<=tTourS l := by
 have h1 := tTourS_take l (i + 1)
 rw [List.take_succ_eq_append_getElem h, tTourS_snoc] at h1
 omega
namespace DW
@[go_sem] theorem bts_Tour : bts Tryz.prog 53 = some 168 := by kernel_rfl
theorem szTourS_fn (x : DTourS) (left : Int) (h0 : 0<=left) (h1 : left<=1048576) : Fn Tryz.prog 12 [⟨.slice DW.tTour, x⟩, ⟨.int, left⟩] false [⟨.int, szr left (x.length + tTourS x)⟩] := by
 by_cases h : left - (x.length : Int) < 0
 ·rw [<-szr_lt (by omega)]
  have d := decide_eq_true h
  refine fn_enter tabOK mixes Tryz.func12 rfl rfl _ Tryz.ntmps12 _ Tryz.results12 (by simp) fun hwf => ?_
  have hl : x.length<=9223372036854775807 := (hwf ⟨.slice DW.tTour, x⟩ (by simp)).1
  try simp (maxSteps:=9^9) only[go_sem]
  repeat refine And.intro (by first|omega|(constructor<;>omega)|kernel_rfl) ?_
  try simp (maxSteps:=9^9) only[go_sem, d]
  all_goals first | kernel_rfl | omega | rfl
 ·have d := decide_eq_false h
  have hr0 := szr_lo left (x.length + tTourS x) h0
  refine fn_enter tabOK mixes Tryz.func12 rfl rfl _ Tryz.ntmps12 _ Tryz.results12 (by simp) fun hwf => ?_
  have hl : x.length<=9223372036854775807 := (hwf ⟨.slice DW.tTour, x⟩ (by simp)).1
  try simp (maxSteps:=9^9) only[go_sem]
  repeat refine And.intro (by first|omega|(constructor<;>omega)|kernel_rfl) ?_
  try simp (maxSteps:=9^9) only[go_sem, d]
  refine LoopG.intro _ _ _ (fun i : Nat => ⟨[(0, .sl DW.tTour x), (1, .sc (.int .i64 (szr left (x.length + tTourS (x.take i))))), (5, .sc (.int .i64 i))], []⟩) (fun i => i<=x.length/\0<=szr left (x.length + tTourS (x.take i))) (fun i => x.length - i) 0 ?_ ⟨Nat.zero_le _, by
   have e : szr left (x.length + tTourS (x.take 0)) = left - x.length := by simp [tTourS]; exact (szr_ge (by omega)).symm
   rw [e]; omega⟩ ?_
  ·have e : szr left (x.length + tTourS (x.take 0)) = left - x.length := by simp [tTourS]; exact (szr_ge (by omega)).symm
   rw [e]
   refine Wk.mk [] ?_
   try simp (maxSteps:=9^9) only[go_sem]
   try (and_intros <;> first | rfl | omega | exact ⟨_, rfl⟩)
  ·rintro i ⟨hi, hle⟩
   have hr1 := szr_lo left (x.length + tTourS (x.take i)) h0
   try simp (maxSteps:=9^9) only[go_sem]
   refine CondW_dec (fun hA => ?_) (fun hA => ?_)
   ·have hlt : i < x.length := by omega
    have hts : tTourS (x.take i) + Go.Proofs.YtmglgcpikjpkdaaGreat.tTour x[i] = tTourS (x.take (i + 1)) := by rw [List.take_succ_eq_append_getElem hlt, tTourS_snoc]
    have c1 := szTour_fn (nth (t := DW.tTour) x i) (szr left (x.length + tTourS (x.take i))) hle (by omega)
    rw [nth_lt hlt, szr_add _ _ _ hle, Nat.add_assoc, hts] at c1
    rw [<-nth_lt (t := DW.tTour) hlt] at c1
    have hr2 := szr_lo left (x.length + tTourS (x.take (i + 1))) h0
    by_cases e1 : szr left (x.length + tTourS (x.take (i + 1))) < 0
    ·have d1 := decide_eq_true e1
     have hf := szr_fail e1 (b := x.length + tTourS x) (Nat.add_le_add_left (tTourS_take x (i + 1)) _)
     rw [<-hf]
     try simp (maxSteps:=9^9) only[go_sem]
     repeat refine And.intro (by first|omega|(constructor<;>omega)|kernel_rfl) ?_
     refine CallW.mk (c1) ?_
     try simp (maxSteps:=9^9) only[go_sem]
     try simp (maxSteps:=9^9) only[go_sem, d1]
     all_goals first | kernel_rfl | omega | rfl
    ·have d1 := decide_eq_false e1
     try simp (maxSteps:=9^9) only[go_sem]
     repeat refine And.intro (by first|omega|(constructor<;>omega)|kernel_rfl) ?_
     refine CallW.mk (c1) ?_
     try simp (maxSteps:=9^9) only[go_sem]
     try simp (maxSteps:=9^9) only[go_sem, d1]
     repeat refine And.intro (by first|omega|(constructor<;>omega)|kernel_rfl) ?_
     refine LoopK.mk (i + 1) ?_ ⟨by omega, by omega⟩ (by omega)
     refine Wk.mk [] ?_
     try simp (maxSteps:=9^9) only[go_sem]
     try (and_intros <;> first | rfl | omega | exact ⟨_, rfl⟩)
   ·have hi2 : i = x.length := by omega
    subst hi2
    rw [List.take_length] at hr1 ⊢
    try simp (maxSteps:=9^9) only[go_sem]
    all_goals first | kernel_rfl | omega | rfl
theorem toTourS_fn (x : DTourS) (hs : x.length + tTourS x<=1048576) : Fn Tryz.prog 14 [⟨.slice DW.tTour, x⟩] true [⟨.slice DW.tTour, x⟩] := by
 refine fn_enter tabOK mixes Tryz.func14 rfl rfl _ Tryz.ntmps14 _ Tryz.results14 (by simp) fun hwf => ?_
 try simp (maxSteps:=9^9) only[go_sem]
 repeat refine And.intro (by first|omega|(constructor<;>omega)|kernel_rfl) ?_
 refine LoopG.intro _ _ _ (fun i : Nat => ⟨[(0, .sl DW.tTour x), (3, .row 0 0), (4, .sc (.int .i64 i))], [(0, .row 53 DW.tTour 0 true (x.take i ++ List.replicate (x.length - i) (([], (((0 : Int), (((false, []), []), ((false, []), []))), [])) : DTour)))]⟩) (fun i => i<=x.length) (fun i => x.length - i) 0 ?_ (Nat.zero_le _) ?_
 ·refine Wk.mk [] ?_
  try simp (maxSteps:=9^9) only[go_sem]
  try (and_intros <;> first | rfl | omega | exact ⟨_, rfl⟩)
 ·rintro i hi
  have hlen : (x.take i ++ List.replicate (x.length - i) (([], (((0 : Int), (((false, []), []), ((false, []), []))), [])) : DTour)).length = x.length := by simp; omega
  try simp (maxSteps:=9^9) only[go_sem]
  refine CondW_dec (fun hA => ?_) (fun hA => ?_)
  ·have hlt : i < x.length := by omega
   have hset : (x.take i ++ List.replicate (x.length - i) (([], (((0 : Int), (((false, []), []), ((false, []), []))), [])) : DTour)).set i (nth (t := DW.tTour) x i) = x.take (i + 1) ++ List.replicate (x.length - (i + 1)) (([], (((0 : Int), (((false, []), []), ((false, []), []))), [])) : DTour) := by
    rw [List.set_append_right _ _ (by rw [List.length_take]; omega), List.length_take, show i - min i x.length = 0 by omega, show x.length - i = (x.length - (i + 1)) + 1 by omega, List.replicate_succ, List.set_cons_zero, nth_lt hlt]
    have e : x.take (i + 1) = x.take i ++ [x[i]] := List.take_succ_eq_append_getElem hlt
    rw [e, List.append_assoc]; rfl
   have ht : (List.take i x).length = i := by rw [List.length_take]; omega
   have c1 := toTour_fn (nth (t := DW.tTour) x i) (by rw [nth_lt hlt]; have := tTourS_mem hlt; omega)
   try simp (maxSteps:=9^9) only[go_sem]
   repeat refine And.intro (by first|omega|(constructor<;>omega)|kernel_rfl) ?_
   refine CallW.mk (c1) ?_
   try simp (maxSteps:=9^9) only[go_sem]
   repeat refine And.intro (by first|omega|(constructor<;>omega)|kernel_rfl) ?_
   refine LoopK.mk (i + 1) ?_ (by omega) (by omega)
   rw [<-hset]
   refine Wk.mk [] ?_
   try simp (maxSteps:=9^9) only[go_sem]
   try (and_intros <;> first | rfl | omega | exact ⟨_, rfl⟩)
  ·have : x.take i ++ List.replicate (x.length - i) (([], (((0 : Int), (((false, []), []), ((false, []), []))), [])) : DTour) = x := by
    rw [List.take_of_length_le (by omega), show x.length - i = 0 by omega]; simp
   rw [this]
   try simp (maxSteps:=9^9) only[go_sem]
   all_goals first | kernel_rfl | omega | rfl
theorem eqTourS_fn (x y : DTourS) : Fn Tryz.prog 17 [⟨.slice DW.tTour, x⟩, ⟨.slice DW.tTour, y⟩] false [⟨.bool, eqb x y⟩] := by
 by_cases h0 : (x.length : Int) = y.length
 ·have d0 := decide_eq_true h0
  refine fn_enter tabOK mixes Tryz.func17 rfl rfl _ Tryz.ntmps17 _ Tryz.results17 (by simp) fun hwf => ?_
  have hl : x.length<=9223372036854775807 := (hwf ⟨.slice DW.tTour, x⟩ (by simp)).1
  try simp (maxSteps:=9^9) only[go_sem, d0]
  refine LoopG.intro _ _ _ (fun i : Nat => ⟨[(0, .sl DW.tTour x), (1, .sl DW.tTour y), (5, .sc (.int .i64 i))], []⟩) (fun i => ∀ j, j < i->j < x.length->nth (t := DW.tTour) x j = nth (t := DW.tTour) y j) (fun i => x.length - i) 0 ?_ (fun j h => absurd h (Nat.not_lt_zero _)) ?_
  ·refine Wk.mk [] ?_
   try simp (maxSteps:=9^9) only[go_sem]
   try (and_intros <;> first | rfl | omega | exact ⟨_, rfl⟩)
  ·rintro i hi
   try simp (maxSteps:=9^9) only[go_sem]
   refine CondW_dec (fun hA => ?_) (fun hA => ?_)
   ·have c1 := eqTour_fn (nth (t := DW.tTour) x i) (nth (t := DW.tTour) y i)
    by_cases e : nth (t := DW.tTour) x i = nth (t := DW.tTour) y i
    ·rw [eqb_true e] at c1
     try simp (maxSteps:=9^9) only[go_sem]
     repeat refine And.intro (by first|omega|(constructor<;>omega)|kernel_rfl) ?_
     refine CallW.mk (c1) ?_
     try simp (maxSteps:=9^9) only[go_sem]
     repeat refine And.intro (by first|omega|(constructor<;>omega)|kernel_rfl) ?_
     refine LoopK.mk (i + 1) ?_ (fun j h1 h2 => ?_) (by omega)
     ·refine Wk.mk [] ?_
      try simp (maxSteps:=9^9) only[go_sem]
      try (and_intros <;> first | rfl | omega | exact ⟨_, rfl⟩)
     ·by_cases h3 : j < i
      ·exact hi j h3 h2
      ·rw [show j = i by omega]; exact e
    ·rw [eqb_false e] at c1
     rw [eqb_false (fun h => e (by rw [h]))]
     try simp (maxSteps:=9^9) only[go_sem]
     repeat refine And.intro (by first|omega|(constructor<;>omega)|kernel_rfl) ?_
     refine CallW.mk (c1) ?_
     try simp (maxSteps:=9^9) only[go_sem]
     all_goals first | kernel_rfl | omega | rfl
   ·have : x = y := by
     refine List.ext_getElem (by omega) fun j h1 h2 => ?_
     have := hi j (by omega) h1
     rwa [nth_lt h1, nth_lt h2] at this
    rw [eqb_true this]
    try simp (maxSteps:=9^9) only[go_sem]
 ·have d0 := decide_eq_false h0
  rw [eqb_false (fun h => h0 (by rw [h]))]
  refine fn_enter tabOK mixes Tryz.func17 rfl rfl _ Tryz.ntmps17 _ Tryz.results17 (by simp) fun hwf => ?_
  try simp (maxSteps:=9^9) only[go_sem, d0]
end DW
end Go.Proofs.YtmglgcpikjpkdaaGreat

namespace Go.Proofs.YtmglgcpikjpkdaaGreat
open Go.RowKit
section
variable {H : Type} {enc : TypeId × Value->H} {w : World} {P : Program}
theorem Opens.prod3 {α β γ : Type} {t : TypeId} {A : Rp α} {B : Rp β} {C : Rp γ} {f0 f1 f2 : Field} (ht : P.underlying t = some (.struct #[f0, f1, f2])) (o0 : f0.offset = 0) (o1 : f1.offset = A.size) (o2 : f2.offset = A.size + B.size)
  (s0 : P.cellsOf f0.type = A.size) (s1 : P.cellsOf f1.type = B.size) (s2 : P.cellsOf f2.type = C.size) (s : P.cellsOf t = A.size + (B.size + C.size)) (h0 : Opens enc P w f0.type A) (h1 : Opens enc P w f1.type B) (h2 : Opens enc P w f2.type C) : Opens enc P w t (Rp.prod A (Rp.prod B C)) := fun fuel cs x h => by
 obtain ⟨xs, n, _, _, hl, hxl, hf⟩ := DataW.trod_struct ht h
 have e0 := hf 0 f0 rfl
 have e1 := hf 1 f1 rfl
 have e2 := hf 2 f2 rfl
 have hxl' : xs.length = 3 := hxl
 rw [o0, s0, List.getElem?_eq_getElem (by omega)] at e0
 rw [o1, s1, List.getElem?_eq_getElem (by omega)] at e1
 rw [o2, s2, List.getElem?_eq_getElem (by omega)] at e2
 obtain ⟨a, fa, ra⟩ := h0 _ _ _ e0
 obtain ⟨b, fb, rb⟩ := h1 _ _ _ e1
 obtain ⟨c, fc, rc⟩ := h2 _ _ _ e2
 refine ⟨(a, b, c), fa ++ (fb ++ fc), _, cs.drop A.size, fa, fb ++ fc, ?_, rfl, ra, _, _, fb, fc, ?_, rfl, rb, rc⟩
 ·rw [List.drop_zero, List.take_append_drop]
 ·rw [<-List.drop_drop, List.take_of_length_le (show ((cs.drop A.size).drop B.size).length<=C.size by simp; omega), List.take_append_drop]
theorem oVec : Opens enc Tryz.prog w 157 RVec := Opens.prod Tryz.underlying157 rfl rfl (by kernel_rfl) (by kernel_rfl) (by kernel_rfl) oInt oInt
theorem oVecS : Opens enc Tryz.prog w 62 RVecS := Opens.slice Tryz.underlying62 (by kernel_rfl) oVec
theorem oTour : Opens enc Tryz.prog w 72 RTour := Opens.prod3 Tryz.underlying72 rfl rfl rfl (by kernel_rfl) (by kernel_rfl) (by kernel_rfl) (by kernel_rfl) oVecS oPlacement oStepS
theorem oTourS : Opens enc Tryz.prog w 22 (Rp.slice RTour (by decide)) := Opens.slice Tryz.underlying22 (by kernel_rfl) oTour
end
end Go.Proofs.YtmglgcpikjpkdaaGreat

namespace Go.Proofs.YtmglgcpikjpkdaaGreat.DW
open Go.RowKit
set_option maxRecDepth 100000 in
set_option maxHeartbeats 8000000 in
theorem lawIsSchedule_fn (x0 : DTourS) (x1 : DIntS) : Fn Tryz.prog 4 [⟨.slice DW.tTour, x0⟩, ⟨DW.tInts, x1⟩] false [⟨.bool, true⟩] := by
 refine fn_enter tabOK mixes Tryz.func4 rfl rfl _ Tryz.ntmps4 _ Tryz.results4 (by simp) fun hwf => ?_
 try simp (maxSteps:=9^9) only[go_sem]
 repeat refine And.intro (by first|omega|(constructor<;>omega)|kernel_rfl) ?_
 refine CondW_dec (fun hlt => ?_) (fun hge => ?_)
 ·try simp (maxSteps:=9^9) only[go_sem]
 have hle1 : x1.length<=1048576 := by omega
 clear hge
 try simp (maxSteps:=9^9) only[go_sem]
 repeat refine And.intro (by first|omega|(constructor<;>omega)|kernel_rfl) ?_
 refine CallW.mk (szTourS_fn x0 1048576 (by omega) (by omega)) ?_
 try simp (maxSteps:=9^9) only[go_sem]
 repeat refine And.intro (by first|omega|(constructor<;>omega)|kernel_rfl) ?_
 have hr0 := szr_lo 1048576 ((x0.length + Go.Proofs.YtmglgcpikjpkdaaGreat.tTourS x0)) (by omega)
 refine CondW_dec (fun hlt => ?_) (fun hge0 => ?_)
 ·try simp (maxSteps:=9^9) only[go_sem]
 have hge0' : 0<=szr 1048576 ((x0.length + Go.Proofs.YtmglgcpikjpkdaaGreat.tTourS x0)) := by omega
 have hs0 := (szr_ok hge0').1
 have hle0 : (x0.length + Go.Proofs.YtmglgcpikjpkdaaGreat.tTourS x0)<=1048576 := by omega
 clear hr0 hs0 hge0 hge0'
 try simp (maxSteps:=9^9) only[go_sem]
 repeat refine And.intro (by first|omega|(constructor<;>omega)|kernel_rfl) ?_
 refine CallW.mk (toTourS_fn x0 hle0) ?_
 try simp (maxSteps:=9^9) only[go_sem]
 repeat refine And.intro (by first|omega|(constructor<;>omega)|kernel_rfl) ?_
 refine CallW.mk (toIntS_fn x1 hle1) ?_
 try simp (maxSteps:=9^9) only[go_sem]
 repeat refine And.intro (by first|omega|(constructor<;>omega)|kernel_rfl) ?_
 refine CallW.mk (IsScheduleS_fn x0 x1) ?_
 try simp (maxSteps:=9^9) only[go_sem]
 repeat refine And.intro (by first|omega|(constructor<;>omega)|kernel_rfl) ?_
 refine CallW.mx (toTourS_fn x0 hle0) ?_
 try simp (maxSteps:=9^9) only[go_sem]
 repeat refine And.intro (by first|omega|(constructor<;>omega)|kernel_rfl) ?_
 refine CallW.mx (toIntS_fn x1 hle1) ?_
 try simp (maxSteps:=9^9) only[go_sem]
 repeat refine And.intro (by first|omega|(constructor<;>omega)|kernel_rfl) ?_
 refine CallW.mx (IsScheduleI_fn x0 x1) ?_
 try simp (maxSteps:=9^9) only[go_sem]
 repeat refine And.intro (by first|omega|(constructor<;>omega)|kernel_rfl) ?_
 refine CallW.mk (toTourS_fn x0 hle0) ?_
 try simp (maxSteps:=9^9) only[go_sem]
 repeat refine And.intro (by first|omega|(constructor<;>omega)|kernel_rfl) ?_
 refine CallW.mx (eqTourS_fn x0 x0) ?_
 try simp (maxSteps:=9^9) only[go_sem]
 repeat refine And.intro (by first|omega|(constructor<;>omega)|kernel_rfl) ?_
 refine CallW.mk (toIntS_fn x1 hle1) ?_
 try simp (maxSteps:=9^9) only[go_sem]
 repeat refine And.intro (by first|omega|(constructor<;>omega)|kernel_rfl) ?_
 refine CallW.mx (eqIntS_fn x1 x1) ?_
 try simp (maxSteps:=9^9) only[go_sem]
 all_goals repeat refine And.intro (by first|omega|(constructor<;>omega)|kernel_rfl) ?_
 all_goals first | kernel_rfl | omega | rfl
end Go.Proofs.YtmglgcpikjpkdaaGreat.DW
namespace Go.Proofs.YtmglgcpikjpkdaaGreat
open Go.RowKit DW
theorem law_FnExactIsSchedule (a0 : Value) (x0 : DTourS) (a1 : Value) (x1 : DIntS) (w : World) (hx0 : Has RTourS w [a0] x0) (hx1 : Has RIntS w [a1] x1) :
  Calls Tryz.prog 4 #[a0, a1] w (Post fun r w' => r = .bool true/\Below w.heap.size w w') :=
 (DW.lawIsSchedule_fn x0 x1).bool (vs := [a0, a1]) ⟨Arg.sl hx0, Arg.sl hx1, trivial⟩
end Go.Proofs.YtmglgcpikjpkdaaGreat
