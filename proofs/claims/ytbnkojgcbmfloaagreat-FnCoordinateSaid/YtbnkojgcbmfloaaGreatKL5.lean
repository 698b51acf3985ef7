/-
  Texts of a proof, one behind another: Dw51, Dw52, Dw53, Dw54, Dw86, Dw87, Dw55, Dw56, Dw57, Dw58, Dw59, Sch, Dw61, Dw90, Dw91, Dw92, Dw93, Dw94, Dw95, Dw96, Dw97, Dw98, Dw99, Dw100, Dw101, Dw102, LawDeadlocks, Dw103, LawFCoordinate.
-/
import Derived.WideKeyPair
import Derived.DeepKeys4
import Derived.Test.YtbnkojgcbmfloaaGreatKL4
set_option linter.all false
set_option maxRecDepth 100000
namespace Go.Proofs.YtbnkojgcbmfloaaGreat.DW
open Go.RowKit
noncomputable def btw (x a b:Option Rat):Bool:=decide (cmpO x (minO a b) ≥ 0) && decide (cmpO x (maxO a b)<=0)
noncomputable def spanB (p a b:DP):Bool:=btw (rdO p.1) (rdO a.1) (rdO b.1) && btw (rdO p.2) (rdO a.2) (rdO b.2)
noncomputable def meetB (a b c d:DP):Bool:=(decide (sdP a b c=0) && spanB c a b) || (decide (sdP a b d=0) && spanB d a b) || (decide (sdP c d a=0) && spanB a c d) || (decide (sdP c d b=0) && spanB b c d) || (decide (sdP a b c * sdP a b d < 0) && decide (sdP c d a * sdP c d b < 0))
theorem isBetween_fn (x a b:Option Rat) (hx:okO x) (ha:okO a) (hb:okO b):Fn Tryz.prog 270 [⟨tRat,oD x⟩,⟨tRat,oD a⟩,⟨tRat,oD b⟩] false [⟨.bool,btw x a b⟩]:=by
 have c1:=ratMin_fn a b ha hb
 have c2:=ratCmp_fn x (minO a b) hx (okO_min ha hb)
 have c3:=ratMax_fn a b ha hb
 have c4:=ratCmp_fn x (maxO a b) hx (okO_max ha hb)
 unfold btw
 by_cases h:cmpO x (minO a b) ≥ 0
 ·have d1:=decide_eq_true h
  rw [d1]
  refine fe Tryz.func270 Tryz.ntmps270 Tryz.results270 fun hwf=>?_
  try simp (maxSteps:=9^9) only[go_sem]
  repeat refine AI ?_
  refine cw c1 ?_
  try simp (maxSteps:=9^9) only[go_sem]
  repeat refine AI ?_
  refine cw c2 ?_
  try simp (maxSteps:=9^9) only[go_sem]
  try simp (maxSteps:=9^9) only[go_sem,d1]
  repeat refine AI ?_
  refine cw c3 ?_
  try simp (maxSteps:=9^9) only[go_sem]
  repeat refine AI ?_
  refine cw c4 ?_
  try simp (maxSteps:=9^9) only[go_sem]
  all_goals repeat refine AI ?_
  all_goals first|kernel_rfl|omega|rfl
 ·have d1:=decide_eq_false h
  rw [d1]
  refine fe Tryz.func270 Tryz.ntmps270 Tryz.results270 fun hwf=>?_
  try simp (maxSteps:=9^9) only[go_sem]
  repeat refine AI ?_
  refine cw c1 ?_
  try simp (maxSteps:=9^9) only[go_sem]
  repeat refine AI ?_
  refine cw c2 ?_
  try simp (maxSteps:=9^9) only[go_sem]
  try simp (maxSteps:=9^9) only[go_sem,d1]
  all_goals repeat refine AI ?_
  all_goals first|kernel_rfl|omega|rfl
theorem isInSpan_fn (p a b:DP) (hp:okPt p=true) (ha:okPt a=true) (hb:okPt b=true):Fn Tryz.prog 247 [⟨tPoint,p⟩,⟨tPoint,a⟩,⟨tPoint,b⟩] false [⟨.bool,spanB p a b⟩]:=by
 have c1:=isBetween_fn (rdO p.1) (rdO a.1) (rdO b.1) (okO_rdO _) (okO_rdO _) (okO_rdO _)
 have c2:=isBetween_fn (rdO p.2) (rdO a.2) (rdO b.2) (okO_rdO _) (okO_rdO _) (okO_rdO _)
 rw [gP_1 (gP_ok hp),gP_1 (gP_ok ha),gP_1 (gP_ok hb)] at c1
 rw [gP_2 (gP_ok hp),gP_2 (gP_ok ha),gP_2 (gP_ok hb)] at c2
 unfold spanB
 cases h:btw (rdO p.1) (rdO a.1) (rdO b.1)<;>rw [h] at c1
 ·refine fe Tryz.func247 Tryz.ntmps247 Tryz.results247 fun hwf=>?_
  try simp (maxSteps:=9^9) only[go_sem]
  repeat refine AI ?_
  refine cw c1 ?_
  try simp (maxSteps:=9^9) only[go_sem]
  all_goals repeat refine AI ?_
  all_goals first|kernel_rfl|omega|rfl
 ·refine fe Tryz.func247 Tryz.ntmps247 Tryz.results247 fun hwf=>?_
  try simp (maxSteps:=9^9) only[go_sem]
  repeat refine AI ?_
  refine cw c1 ?_
  try simp (maxSteps:=9^9) only[go_sem]
  repeat refine AI ?_
  refine cw c2 ?_
  try simp (maxSteps:=9^9) only[go_sem]
  all_goals repeat refine AI ?_
  all_goals first|kernel_rfl|omega|rfl
theorem sdP_b (p q r:DP):-1<=sdP p q r/\sdP p q r<=1:=by
 unfold sdP sgnO
 split
 ·unfold cmpQ
  split
  ·omega
  ·split<;>omega
 ·omega
theorem mul3 {x y:Int} (hx:-1<=x/\x<=1) (hy:-1<=y/\y<=1):-1<=x * y/\x * y<=1:=by
 have h1:x=-1\/x=0\/x=1:=by omega
 rcases h1 with rfl|rfl|rfl<;>omega
set_option maxHeartbeats 4000000 in
theorem meet_fn (a b c d:DP) (ha:okPt a=true) (hb:okPt b=true) (hc:okPt c=true) (hd:okPt d=true):Fn Tryz.prog 218 [⟨tPoint,a⟩,⟨tPoint,b⟩,⟨tPoint,c⟩,⟨tPoint,d⟩] false [⟨.bool,meetB a b c d⟩]:=by
 have c0:=side_fn a b c ha hb hc
 have c1:=side_fn a b d ha hb hd
 have c2:=side_fn c d a hc hd ha
 have c3:=side_fn c d b hc hd hb
 have s0:=isInSpan_fn c a b hc ha hb
 have s1:=isInSpan_fn d a b hd ha hb
 have s2:=isInSpan_fn a c d ha hc hd
 have s3:=isInSpan_fn b c d hb hc hd
 have b0:=sdP_b a b c
 have b1:=sdP_b a b d
 have b2:=sdP_b c d a
 have b3:=sdP_b c d b
 unfold meetB
 generalize sdP a b c=z0 at *
 generalize sdP a b d=z1 at *
 generalize sdP c d a=z2 at *
 generalize sdP c d b=z3 at *
 generalize spanB c a b=g0 at *
 generalize spanB d a b=g1 at *
 generalize spanB a c d=g2 at *
 generalize spanB b c d=g3 at *
 have m0:=mul3 b0 b1
 have m1:=mul3 b2 b3
 refine fe Tryz.func218 Tryz.ntmps218 Tryz.results218 fun hwf=>?_
 try simp (maxSteps:=9^9) only[go_sem]
 repeat refine AI ?_
 refine cw c0 ?_
 try simp (maxSteps:=9^9) only[go_sem]
 repeat refine AI ?_
 refine cw c1 ?_
 try simp (maxSteps:=9^9) only[go_sem]
 repeat refine AI ?_
 repeat refine AI ?_
 refine cw c2 ?_
 try simp (maxSteps:=9^9) only[go_sem]
 repeat refine AI ?_
 refine cw c3 ?_
 try simp (maxSteps:=9^9) only[go_sem]
 repeat refine AI ?_
 by_cases h0:z0=0
 ·have d0:=decide_eq_true h0
  cases t0:g0<;>rw [t0] at s0
  ·try simp (maxSteps:=9^9) only[go_sem,d0]
   repeat refine AI ?_
   refine cw s0 ?_
   try simp (maxSteps:=9^9) only[go_sem]
   by_cases h1:z1=0
   ·have d1:=decide_eq_true h1
    cases t1:g1<;>rw [t1] at s1
    ·try simp (maxSteps:=9^9) only[go_sem,d1]
     repeat refine AI ?_
     refine cw s1 ?_
     try simp (maxSteps:=9^9) only[go_sem]
     by_cases h2:z2=0
     ·have d2:=decide_eq_true h2
      cases t2:g2<;>rw [t2] at s2
      ·try simp (maxSteps:=9^9) only[go_sem,d2]
       repeat refine AI ?_
       refine cw s2 ?_
       try simp (maxSteps:=9^9) only[go_sem]
       by_cases h3:z3=0
       ·have d3:=decide_eq_true h3
        cases t3:g3<;>rw [t3] at s3
        ·try simp (maxSteps:=9^9) only[go_sem,d3]
         repeat refine AI ?_
         refine cw s3 ?_
         try simp (maxSteps:=9^9) only[go_sem]
         by_cases q0:z0 * z1 < 0
         ·have e0:=decide_eq_true q0
          try simp (maxSteps:=9^9) only[go_sem,e0]
          repeat refine AI ?_
          all_goals first|omega|(simp [h0,h1,h2,h3,q0]; done)
         ·have e0:=decide_eq_false q0
          try simp (maxSteps:=9^9) only[go_sem,e0]
          repeat refine AI ?_
          all_goals first|omega|(simp [h0,h1,h2,h3,q0]; done)
        ·try simp (maxSteps:=9^9) only[go_sem,d3]
         repeat refine AI ?_
         refine cw s3 ?_
         try simp (maxSteps:=9^9) only[go_sem]
         all_goals first|omega|(simp [h0,h1,h2,h3]; done)
       ·have d3:=decide_eq_false h3
        try simp (maxSteps:=9^9) only[go_sem,d3]
        by_cases q0:z0 * z1 < 0
        ·have e0:=decide_eq_true q0
         try simp (maxSteps:=9^9) only[go_sem,e0]
         repeat refine AI ?_
         all_goals first|omega|(simp [h0,h1,h2,h3,q0]; done)
        ·have e0:=decide_eq_false q0
         try simp (maxSteps:=9^9) only[go_sem,e0]
         repeat refine AI ?_
         all_goals first|omega|(simp [h0,h1,h2,h3,q0]; done)
      ·try simp (maxSteps:=9^9) only[go_sem,d2]
       repeat refine AI ?_
       refine cw s2 ?_
       try simp (maxSteps:=9^9) only[go_sem]
       all_goals first|omega|(simp [h0,h1,h2]; done)
     ·have d2:=decide_eq_false h2
      try simp (maxSteps:=9^9) only[go_sem,d2]
      by_cases h3:z3=0
      ·have d3:=decide_eq_true h3
       cases t3:g3<;>rw [t3] at s3
       ·try simp (maxSteps:=9^9) only[go_sem,d3]
        repeat refine AI ?_
        refine cw s3 ?_
        try simp (maxSteps:=9^9) only[go_sem]
        by_cases q0:z0 * z1 < 0
        ·have e0:=decide_eq_true q0
         try simp (maxSteps:=9^9) only[go_sem,e0]
         repeat refine AI ?_
         all_goals first|omega|(simp [h0,h1,h2,h3,q0]; done)
        ·have e0:=decide_eq_false q0
         try simp (maxSteps:=9^9) only[go_sem,e0]
         repeat refine AI ?_
         all_goals first|omega|(simp [h0,h1,h2,h3,q0]; done)
       ·try simp (maxSteps:=9^9) only[go_sem,d3]
        repeat refine AI ?_
        refine cw s3 ?_
        try simp (maxSteps:=9^9) only[go_sem]
        all_goals first|omega|(simp [h0,h1,h2,h3]; done)
      ·have d3:=decide_eq_false h3
       try simp (maxSteps:=9^9) only[go_sem,d3]
       by_cases q0:z0 * z1 < 0
       ·have e0:=decide_eq_true q0
        try simp (maxSteps:=9^9) only[go_sem,e0]
        repeat refine AI ?_
        all_goals first|omega|(simp [h0,h1,h2,h3,q0]; done)
       ·have e0:=decide_eq_false q0
        try simp (maxSteps:=9^9) only[go_sem,e0]
        repeat refine AI ?_
        all_goals first|omega|(simp [h0,h1,h2,h3,q0]; done)
    ·try simp (maxSteps:=9^9) only[go_sem,d1]
     repeat refine AI ?_
     refine cw s1 ?_
     try simp (maxSteps:=9^9) only[go_sem]
     all_goals first|omega|(simp [h0,h1]; done)
   ·have d1:=decide_eq_false h1
    try simp (maxSteps:=9^9) only[go_sem,d1]
    by_cases h2:z2=0
    ·have d2:=decide_eq_true h2
     cases t2:g2<;>rw [t2] at s2
     ·try simp (maxSteps:=9^9) only[go_sem,d2]
      repeat refine AI ?_
      refine cw s2 ?_
      try simp (maxSteps:=9^9) only[go_sem]
      by_cases h3:z3=0
      ·have d3:=decide_eq_true h3
       cases t3:g3<;>rw [t3] at s3
       ·try simp (maxSteps:=9^9) only[go_sem,d3]
        repeat refine AI ?_
        refine cw s3 ?_
        try simp (maxSteps:=9^9) only[go_sem]
        by_cases q0:z0 * z1 < 0
        ·have e0:=decide_eq_true q0
         try simp (maxSteps:=9^9) only[go_sem,e0]
         repeat refine AI ?_
         all_goals first|omega|(simp [h0,h1,h2,h3,q0]; done)
        ·have e0:=decide_eq_false q0
         try simp (maxSteps:=9^9) only[go_sem,e0]
         repeat refine AI ?_
         all_goals first|omega|(simp [h0,h1,h2,h3,q0]; done)
       ·try simp (maxSteps:=9^9) only[go_sem,d3]
        repeat refine AI ?_
        refine cw s3 ?_
        try simp (maxSteps:=9^9) only[go_sem]
        all_goals first|omega|(simp [h0,h1,h2,h3]; done)
      ·have d3:=decide_eq_false h3
       try simp (maxSteps:=9^9) only[go_sem,d3]
       by_cases q0:z0 * z1 < 0
       ·have e0:=decide_eq_true q0
        try simp (maxSteps:=9^9) only[go_sem,e0]
        repeat refine AI ?_
        all_goals first|omega|(simp [h0,h1,h2,h3,q0]; done)
       ·have e0:=decide_eq_false q0
        try simp (maxSteps:=9^9) only[go_sem,e0]
        repeat refine AI ?_
        all_goals first|omega|(simp [h0,h1,h2,h3,q0]; done)
     ·try simp (maxSteps:=9^9) only[go_sem,d2]
      repeat refine AI ?_
      refine cw s2 ?_
      try simp (maxSteps:=9^9) only[go_sem]
      all_goals first|omega|(simp [h0,h1,h2]; done)
    ·have d2:=decide_eq_false h2
     try simp (maxSteps:=9^9) only[go_sem,d2]
     by_cases h3:z3=0
     ·have d3:=decide_eq_true h3
      cases t3:g3<;>rw [t3] at s3
      ·try simp (maxSteps:=9^9) only[go_sem,d3]
       repeat refine AI ?_
       refine cw s3 ?_
       try simp (maxSteps:=9^9) only[go_sem]
       by_cases q0:z0 * z1 < 0
       ·have e0:=decide_eq_true q0
        try simp (maxSteps:=9^9) only[go_sem,e0]
        repeat refine AI ?_
        all_goals first|omega|(simp [h0,h1,h2,h3,q0]; done)
       ·have e0:=decide_eq_false q0
        try simp (maxSteps:=9^9) only[go_sem,e0]
        repeat refine AI ?_
        all_goals first|omega|(simp [h0,h1,h2,h3,q0]; done)
      ·try simp (maxSteps:=9^9) only[go_sem,d3]
       repeat refine AI ?_
       refine cw s3 ?_
       try simp (maxSteps:=9^9) only[go_sem]
       all_goals first|omega|(simp [h0,h1,h2,h3]; done)
     ·have d3:=decide_eq_false h3
      try simp (maxSteps:=9^9) only[go_sem,d3]
      by_cases q0:z0 * z1 < 0
      ·have e0:=decide_eq_true q0
       try simp (maxSteps:=9^9) only[go_sem,e0]
       repeat refine AI ?_
       all_goals first|omega|(simp [h0,h1,h2,h3,q0]; done)
      ·have e0:=decide_eq_false q0
       try simp (maxSteps:=9^9) only[go_sem,e0]
       repeat refine AI ?_
       all_goals first|omega|(simp [h0,h1,h2,h3,q0]; done)
  ·try simp (maxSteps:=9^9) only[go_sem,d0]
   repeat refine AI ?_
   refine cw s0 ?_
   try simp (maxSteps:=9^9) only[go_sem]
   all_goals first|omega|(simp [h0]; done)
 ·have d0:=decide_eq_false h0
  try simp (maxSteps:=9^9) only[go_sem,d0]
  by_cases h1:z1=0
  ·have d1:=decide_eq_true h1
   cases t1:g1<;>rw [t1] at s1
   ·try simp (maxSteps:=9^9) only[go_sem,d1]
    repeat refine AI ?_
    refine cw s1 ?_
    try simp (maxSteps:=9^9) only[go_sem]
    by_cases h2:z2=0
    ·have d2:=decide_eq_true h2
     cases t2:g2<;>rw [t2] at s2
     ·try simp (maxSteps:=9^9) only[go_sem,d2]
      repeat refine AI ?_
      refine cw s2 ?_
      try simp (maxSteps:=9^9) only[go_sem]
      by_cases h3:z3=0
      ·have d3:=decide_eq_true h3
       cases t3:g3<;>rw [t3] at s3
       ·try simp (maxSteps:=9^9) only[go_sem,d3]
        repeat refine AI ?_
        refine cw s3 ?_
        try simp (maxSteps:=9^9) only[go_sem]
        by_cases q0:z0 * z1 < 0
        ·have e0:=decide_eq_true q0
         try simp (maxSteps:=9^9) only[go_sem,e0]
         repeat refine AI ?_
         all_goals first|omega|(simp [h0,h1,h2,h3,q0]; done)
        ·have e0:=decide_eq_false q0
         try simp (maxSteps:=9^9) only[go_sem,e0]
         repeat refine AI ?_
         all_goals first|omega|(simp [h0,h1,h2,h3,q0]; done)
       ·try simp (maxSteps:=9^9) only[go_sem,d3]
        repeat refine AI ?_
        refine cw s3 ?_
        try simp (maxSteps:=9^9) only[go_sem]
        all_goals first|omega|(simp [h0,h1,h2,h3]; done)
      ·have d3:=decide_eq_false h3
       try simp (maxSteps:=9^9) only[go_sem,d3]
       by_cases q0:z0 * z1 < 0
       ·have e0:=decide_eq_true q0
        try simp (maxSteps:=9^9) only[go_sem,e0]
        repeat refine AI ?_
        all_goals first|omega|(simp [h0,h1,h2,h3,q0]; done)
       ·have e0:=decide_eq_false q0
        try simp (maxSteps:=9^9) only[go_sem,e0]
        repeat refine AI ?_
        all_goals first|omega|(simp [h0,h1,h2,h3,q0]; done)
     ·try simp (maxSteps:=9^9) only[go_sem,d2]
      repeat refine AI ?_
      refine cw s2 ?_
      try simp (maxSteps:=9^9) only[go_sem]
      all_goals first|omega|(simp [h0,h1,h2]; done)
    ·have d2:=decide_eq_false h2
     try simp (maxSteps:=9^9) only[go_sem,d2]
     by_cases h3:z3=0
     ·have d3:=decide_eq_true h3
      cases t3:g3<;>rw [t3] at s3
      ·try simp (maxSteps:=9^9) only[go_sem,d3]
       repeat refine AI ?_
       refine cw s3 ?_
       try simp (maxSteps:=9^9) only[go_sem]
       by_cases q0:z0 * z1 < 0
       ·have e0:=decide_eq_true q0
        try simp (maxSteps:=9^9) only[go_sem,e0]
        repeat refine AI ?_
        all_goals first|omega|(simp [h0,h1,h2,h3,q0]; done)
       ·have e0:=decide_eq_false q0
        try simp (maxSteps:=9^9) only[go_sem,e0]
        repeat refine AI ?_
        all_goals first|omega|(simp [h0,h1,h2,h3,q0]; done)
      ·try simp (maxSteps:=9^9) only[go_sem,d3]
       repeat refine AI ?_
       refine cw s3 ?_
       try simp (maxSteps:=9^9) only[go_sem]
       all_goals first|omega|(simp [h0,h1,h2,h3]; done)
     ·have d3:=decide_eq_false h3
      try simp (maxSteps:=9^9) only[go_sem,d3]
      by_cases q0:z0 * z1 < 0
      ·have e0:=decide_eq_true q0
       try simp (maxSteps:=9^9) only[go_sem,e0]
       repeat refine AI ?_
       all_goals first|omega|(simp [h0,h1,h2,h3,q0]; done)
      ·have e0:=decide_eq_false q0
       try simp (maxSteps:=9^9) only[go_sem,e0]
       repeat refine AI ?_
       all_goals first|omega|(simp [h0,h1,h2,h3,q0]; done)
   ·try simp (maxSteps:=9^9) only[go_sem,d1]
    repeat refine AI ?_
    refine cw s1 ?_
    try simp (maxSteps:=9^9) only[go_sem]
    all_goals first|omega|(simp [h0,h1]; done)
  ·have d1:=decide_eq_false h1
   try simp (maxSteps:=9^9) only[go_sem,d1]
   by_cases h2:z2=0
   ·have d2:=decide_eq_true h2
    cases t2:g2<;>rw [t2] at s2
    ·try simp (maxSteps:=9^9) only[go_sem,d2]
     repeat refine AI ?_
     refine cw s2 ?_
     try simp (maxSteps:=9^9) only[go_sem]
     by_cases h3:z3=0
     ·have d3:=decide_eq_true h3
      cases t3:g3<;>rw [t3] at s3
      ·try simp (maxSteps:=9^9) only[go_sem,d3]
       repeat refine AI ?_
       refine cw s3 ?_
       try simp (maxSteps:=9^9) only[go_sem]
       by_cases q0:z0 * z1 < 0
       ·have e0:=decide_eq_true q0
        try simp (maxSteps:=9^9) only[go_sem,e0]
        repeat refine AI ?_
        all_goals first|omega|(simp [h0,h1,h2,h3,q0]; done)
       ·have e0:=decide_eq_false q0
        try simp (maxSteps:=9^9) only[go_sem,e0]
        repeat refine AI ?_
        all_goals first|omega|(simp [h0,h1,h2,h3,q0]; done)
      ·try simp (maxSteps:=9^9) only[go_sem,d3]
       repeat refine AI ?_
       refine cw s3 ?_
       try simp (maxSteps:=9^9) only[go_sem]
       all_goals first|omega|(simp [h0,h1,h2,h3]; done)
     ·have d3:=decide_eq_false h3
      try simp (maxSteps:=9^9) only[go_sem,d3]
      by_cases q0:z0 * z1 < 0
      ·have e0:=decide_eq_true q0
       try simp (maxSteps:=9^9) only[go_sem,e0]
       repeat refine AI ?_
       all_goals first|omega|(simp [h0,h1,h2,h3,q0]; done)
      ·have e0:=decide_eq_false q0
       try simp (maxSteps:=9^9) only[go_sem,e0]
       repeat refine AI ?_
       all_goals first|omega|(simp [h0,h1,h2,h3,q0]; done)
    ·try simp (maxSteps:=9^9) only[go_sem,d2]
     repeat refine AI ?_
     refine cw s2 ?_
     try simp (maxSteps:=9^9) only[go_sem]
     all_goals first|omega|(simp [h0,h1,h2]; done)
   ·have d2:=decide_eq_false h2
    try simp (maxSteps:=9^9) only[go_sem,d2]
    by_cases h3:z3=0
    ·have d3:=decide_eq_true h3
     cases t3:g3<;>rw [t3] at s3
     ·try simp (maxSteps:=9^9) only[go_sem,d3]
      repeat refine AI ?_
      refine cw s3 ?_
      try simp (maxSteps:=9^9) only[go_sem]
      by_cases q0:z0 * z1 < 0
      ·have e0:=decide_eq_true q0
       try simp (maxSteps:=9^9) only[go_sem,e0]
       repeat refine AI ?_
       all_goals first|omega|(simp [h0,h1,h2,h3,q0]; done)
      ·have e0:=decide_eq_false q0
       try simp (maxSteps:=9^9) only[go_sem,e0]
       repeat refine AI ?_
       all_goals first|omega|(simp [h0,h1,h2,h3,q0]; done)
     ·try simp (maxSteps:=9^9) only[go_sem,d3]
      repeat refine AI ?_
      refine cw s3 ?_
      try simp (maxSteps:=9^9) only[go_sem]
      all_goals first|omega|(simp [h0,h1,h2,h3]; done)
    ·have d3:=decide_eq_false h3
     try simp (maxSteps:=9^9) only[go_sem,d3]
     by_cases q0:z0 * z1 < 0
     ·have e0:=decide_eq_true q0
      try simp (maxSteps:=9^9) only[go_sem,e0]
      repeat refine AI ?_
      all_goals first|omega|(simp [h0,h1,h2,h3,q0]; done)
     ·have e0:=decide_eq_false q0
      try simp (maxSteps:=9^9) only[go_sem,e0]
      repeat refine AI ?_
      all_goals first|omega|(simp [h0,h1,h2,h3,q0]; done)
end Go.Proofs.YtbnkojgcbmfloaaGreat.DW

namespace Go.Proofs.YtbnkojgcbmfloaaGreat.DW
open Go.RowKit
noncomputable def smI_ (l:List DV) (p q:DP) (i:Nat):Bool:=meetB p q (ptV (nth (t:=tVec) l i)) (ptV (nth (t:=tVec) l (nxt l.length i).toNat))
def smAny (l:List DV) (p q:DP):Prop:=∃ i,i < l.length/\smI_ l p q i=true
noncomputable def segB (l:List DV) (p q:DP):Bool:=decide (cntI l p l.length ≥ 0) || (decide (cntI l q l.length ≥ 0) || bdec (smAny l p q))
theorem segmentMeets_fn (l:List DV) (p q:DP) (hl:polyP l) (hp:okPt p=true) (hq:okPt q=true):Fn Tryz.prog 177 [⟨.slice tVec,l⟩,⟨tPoint,p⟩,⟨tPoint,q⟩] false [⟨.bool,segB l p q⟩]:=by
 have h3:3<=l.length:=by have:=hl.1.1; omega
 have hn:l.length<=1048576:=by have:=hl.1.2; omega
 have c1:=contains_fn l p hl.2.1 hn hp
 have c2:=contains_fn l q hl.2.1 hn hq
 have c3:=pointsOf_fn l hn
 have hml:(l.map ptV).length=l.length:=List.length_map ..
 have ptok:∀ i,i < l.length->okPt (ptV (nth (t:=tVec) l i))=true:=fun i hi=>okPt_ptV (hl.2.1 _ (nth_mem hi))
 unfold segB
 by_cases h1:cntI l p l.length ≥ 0
 ·have d1:=decide_eq_true h1
  rw [d1]
  refine fe Tryz.func177 Tryz.ntmps177 Tryz.results177 fun hwf=>?_
  try simp (maxSteps:=9^9) only[go_sem]
  repeat refine AI ?_
  refine cw c1 ?_
  try simp (maxSteps:=9^9) only[go_sem]
  try simp (maxSteps:=9^9) only[go_sem,d1]
  all_goals repeat refine AI ?_
  all_goals first|kernel_rfl|omega|rfl
 ·have d1:=decide_eq_false h1
  rw [d1]
  by_cases h2:cntI l q l.length ≥ 0
  ·have d2:=decide_eq_true h2
   rw [d2]
   refine fe Tryz.func177 Tryz.ntmps177 Tryz.results177 fun hwf=>?_
   try simp (maxSteps:=9^9) only[go_sem]
   repeat refine AI ?_
   refine cw c1 ?_
   try simp (maxSteps:=9^9) only[go_sem]
   try simp (maxSteps:=9^9) only[go_sem,d1]
   repeat refine AI ?_
   refine cw c2 ?_
   try simp (maxSteps:=9^9) only[go_sem]
   try simp (maxSteps:=9^9) only[go_sem,d2]
   all_goals repeat refine AI ?_
   all_goals first|kernel_rfl|omega|rfl
  ·have d2:=decide_eq_false h2
   rw [d2]
   refine fe Tryz.func177 Tryz.ntmps177 Tryz.results177 fun hwf=>?_
   try simp (maxSteps:=9^9) only[go_sem]
   repeat refine AI ?_
   refine cw c1 ?_
   try simp (maxSteps:=9^9) only[go_sem]
   try simp (maxSteps:=9^9) only[go_sem,d1]
   repeat refine AI ?_
   refine cw c2 ?_
   try simp (maxSteps:=9^9) only[go_sem]
   try simp (maxSteps:=9^9) only[go_sem,d2]
   repeat refine AI ?_
   refine cw c3 ?_
   try simp (maxSteps:=9^9) only[go_sem]
   try simp (maxSteps:=9^9) only[go_sem,hml]
   refine LoopG.intro _ _ _ (fun i:Nat=>⟨[(4,.ptr 0 0),(5,.ptr 1 0),(7,.sl tPoint (l.map ptV)),(22,.sl tPoint (l.map ptV)),(23,.sc (.int .i64 l.length)),(24,.sc (.int .i64 i))],[(1,.box (cel tPoint q)),(0,.box (cel tPoint p))]⟩) (fun i=>∀ j,j < i->j < l.length->smI_ l p q j=false) (fun i=>l.length - i) 0 ?_ (fun j h=>absurd h (Nat.not_lt_zero _)) ?_
   ·exact WK
   ·rintro i hi
    try simp (maxSteps:=9^9) only[go_sem]
    refine CondW_dec (fun hA=>?_) (fun hA=>?_)
    ·have hlt:i < l.length:=by omega
     have hr:=nxt_rng (n:=l.length) (i:=i) (by omega)
     have hr2:(nxt l.length i).toNat < l.length:=by omega
     have c4:=meet_fn p q (ptV (nth (t:=tVec) l i)) (ptV (nth (t:=tVec) l (nxt l.length i).toNat)) hp hq (ptok _ (by omega)) (ptok _ hr2)
     rw [show meetB p q (ptV (nth (t:=tVec) l i)) (ptV (nth (t:=tVec) l (nxt l.length i).toNat))=smI_ l p q i from rfl] at c4
     rw [<-nth_ptV hlt,<-nth_ptV hr2] at c4
     unfold nxt at hr hr2 c4
     cases hs:smI_ l p q i<;>rw [hs] at c4
     ·try simp (maxSteps:=9^9) only[go_sem,hml]
      repeat refine AI ?_
      refine RemW.pos (by omega) (by omega) ?_
      try simp (maxSteps:=9^9) only[go_sem,hml]
      repeat refine AI ?_
      repeat refine AI ?_
      refine cw c4 ?_
      try simp (maxSteps:=9^9) only[go_sem]
      repeat refine AI ?_
      refine LoopK.mk (i+1) ?_ (fun j h1 h2=>?_) (by omega)
      ·exact WK
      ·by_cases h:j < i
       ·exact hi j h h2
       ·rw [show j=i by omega]; exact hs
     ·have e:bdec (smAny l p q)=true:=bdec_t ⟨i,hlt,hs⟩
      rw [e]
      try simp (maxSteps:=9^9) only[go_sem,hml]
      repeat refine AI ?_
      refine RemW.pos (by omega) (by omega) ?_
      try simp (maxSteps:=9^9) only[go_sem,hml]
      repeat refine AI ?_
      repeat refine AI ?_
      refine cw c4 ?_
      try simp (maxSteps:=9^9) only[go_sem]
      all_goals repeat refine AI ?_
      all_goals first|kernel_rfl|omega|rfl
    ·have e:bdec (smAny l p q)=false:=bdec_f (by rintro ⟨j,h1,h2⟩; rw [hi j (by omega) h1] at h2; cases h2)
     rw [e]
     try simp (maxSteps:=9^9) only[go_sem]
     all_goals repeat refine AI ?_
     all_goals first|kernel_rfl|omega|rfl
noncomputable def sgmB (l:List DV) (p q:DP):Bool:=okPt p && (okPt q && segB l p q)
theorem SegmentMeetsI_fn (l:List DV) (p q:DP) (hl:polyP l):Fn Tryz.prog 141 [⟨.slice tVec,l⟩,⟨tPoint,p⟩,⟨tPoint,q⟩] false [⟨.bool,sgmB l p q⟩]:=by
 have c0:=implIsPolygon_fn l
 rw [polyB_t hl] at c0
 have c1:=arePoints2_fn p q
 unfold sgmB
 cases hp:okPt p<;>rw [hp] at c1
 ·refine fe Tryz.func141 Tryz.ntmps141 Tryz.results141 fun hwf=>?_
  try simp (maxSteps:=9^9) only[go_sem]
  repeat refine AI ?_
  refine cw c0 ?_
  try simp (maxSteps:=9^9) only[go_sem]
  repeat refine AI ?_
  refine cw c1 ?_
  try simp (maxSteps:=9^9) only[go_sem]
  all_goals repeat refine AI ?_
  all_goals first|kernel_rfl|omega|rfl
 ·cases hq:okPt q<;>rw [hq] at c1
  ·refine fe Tryz.func141 Tryz.ntmps141 Tryz.results141 fun hwf=>?_
   try simp (maxSteps:=9^9) only[go_sem]
   repeat refine AI ?_
   refine cw c0 ?_
   try simp (maxSteps:=9^9) only[go_sem]
   repeat refine AI ?_
   refine cw c1 ?_
   try simp (maxSteps:=9^9) only[go_sem]
   all_goals repeat refine AI ?_
   all_goals first|kernel_rfl|omega|rfl
  ·have c2:=segmentMeets_fn l p q hl hp hq
   refine fe Tryz.func141 Tryz.ntmps141 Tryz.results141 fun hwf=>?_
   try simp (maxSteps:=9^9) only[go_sem]
   repeat refine AI ?_
   refine cw c0 ?_
   try simp (maxSteps:=9^9) only[go_sem]
   repeat refine AI ?_
   refine cw c1 ?_
   try simp (maxSteps:=9^9) only[go_sem]
   repeat refine AI ?_
   refine cw c2 ?_
   try simp (maxSteps:=9^9) only[go_sem]
   all_goals repeat refine AI ?_
   all_goals first|kernel_rfl|omega|rfl
theorem rch_sm {l:List DV} (hl:∀ v ∈ l,inB 20 v=true):∀ i,i<=l.length->0<=rchI l i/\rchI l i<=800
 | 0,_=>by unfold rchI; omega
 | i+1,h=>by
  obtain ⟨h1,h2⟩:=rch_sm hl i (by omega)
  obtain ⟨b1,b2,b3,b4⟩:=inB_b (hl _ (nth_mem (show i < l.length by omega)))
  have s1:=sqI_le b1 b2
  have s2:=sqI_le b3 b4
  unfold rchI
  omega
theorem tv_ok:∀ {l:List DS} {p:DS},tvGo p l=true->∀ i,i < l.length->okPt (nth (t:=tStep) l i).2=true
 | [],_,_,i,h=>by simp at h
 | x :: l,p,hg,i,h=>by
  have h':(tvStep p x && tvGo (stp p x) l)=true:=hg
  rw [Bool.and_eq_true] at h'
  cases i with
  | zero =>
   have:=h'.1
   unfold tvStep at this
   rw [Bool.and_eq_true,Bool.and_eq_true] at this
   exact this.2.1
  | succ i =>
   have:=tv_ok h'.2 i (by simp at h; omega)
   simpa [nth] using this
theorem tour_step {t:DT} (h:tourB t=true) {i:Nat} (hi:i < t.2.2.length):okPt (nth (t:=tStep) t.2.2 i).2=true:=tv_ok (tour_parts h).2.2.2.2 i hi
noncomputable def stpTB (a:DT) (i:Int) (b:DT) (j:Int):Bool :=
 if (nth (t:=tStep) a.2.2 i.toNat).1=0 then sgmB (areaD a i b j) (subP (standP a i).2 (standP b j).2) (subP (nth (t:=tStep) a.2.2 i.toNat).2 (standP b j).2)
 else discB (robD b j) (subP (standP a i).2 (standP b j).2) (rchI a.1 a.1.length)
set_option maxHeartbeats 1000000 in
theorem stepTouches_fn (a:DT) (i:Int) (b:DT) (j:Int) (ha:tourB a=true) (hb:tourB b=true) (h0:0<=i) (h1:i < a.2.2.length):Fn Tryz.prog 99 [⟨tTour,a⟩,⟨.int,i⟩,⟨tTour,b⟩,⟨.int,j⟩] false [⟨.bool,stpTB a i b j⟩]:=by
 have c1:=stand_fn a i
 have c2:=stand_fn b j
 have p1:=(tour_parts ha).1
 have p2:=(tour_parts hb).1
 have l1:=p1.five
 have l2:=p2.five
 have c3:=TurnPolygonI_fn a.1 (standP a i).1 p1.ok (by omega) (standP_hd ha i)
 have c4:=TurnPolygonI_fn b.1 (standP b j).1 p2.ok (by omega) (standP_hd hb j)
 have c6:=differenceP_fn _ _ (standP_ok ha i) (standP_ok hb j)
 by_cases hz:(nth (t:=tStep) a.2.2 i.toNat).1=0
 ·have d1:=decide_eq_true hz
  have c5:=ObstacleForI_fn _ _ (robD_sm ha i) (robD_sm hb j) (by decide)
  have c7:=differenceP_fn _ _ (tour_step ha (i:=i.toNat) (by omega)) (standP_ok hb j)
  have c8:=SegmentMeetsI_fn (areaD a i b j) (subP (standP a i).2 (standP b j).2) (subP (nth (t:=tStep) a.2.2 i.toNat).2 (standP b j).2) (areaD_poly ha hb i j)
  rw [show stpTB a i b j=sgmB (areaD a i b j) (subP (standP a i).2 (standP b j).2) (subP (nth (t:=tStep) a.2.2 i.toNat).2 (standP b j).2) from if_pos hz]
  unfold robD at c5
  unfold areaD robD at c8 ⊢
  refine fe Tryz.func99 Tryz.ntmps99 Tryz.results99 fun hwf=>?_
  try simp (maxSteps:=9^9) only[go_sem]
  repeat refine AI ?_
  refine cw c1 ?_
  try simp (maxSteps:=9^9) only[go_sem]
  repeat refine AI ?_
  refine cw c2 ?_
  try simp (maxSteps:=9^9) only[go_sem]
  repeat refine AI ?_
  repeat refine AI ?_
  refine cw c4 ?_
  try simp (maxSteps:=9^9) only[go_sem]
  try simp (maxSteps:=9^9) only[go_sem,d1]
  repeat refine AI ?_
  refine cw c3 ?_
  try simp (maxSteps:=9^9) only[go_sem]
  repeat refine AI ?_
  refine cw c5 ?_
  try simp (maxSteps:=9^9) only[go_sem]
  repeat refine AI ?_
  repeat refine AI ?_
  refine cw c6 ?_
  try simp (maxSteps:=9^9) only[go_sem]
  repeat refine AI ?_
  refine cw c7 ?_
  try simp (maxSteps:=9^9) only[go_sem]
  repeat refine AI ?_
  refine cw c8 ?_
  try simp (maxSteps:=9^9) only[go_sem]
  all_goals repeat refine AI ?_
  all_goals first|kernel_rfl|omega|rfl
 ·have d1:=decide_eq_false hz
  have hr:=rch_sm p1.ins a.1.length (Nat.le_refl _)
  have c5:=ReachSquareI_fn a.1 p1.poly
  have c7:=DiscTouchesI_fn (robD b j) (subP (standP a i).2 (standP b j).2) (rchI a.1 a.1.length) (robD_sm hb j).poly (by omega)
  rw [show stpTB a i b j=discB (robD b j) (subP (standP a i).2 (standP b j).2) (rchI a.1 a.1.length) from if_neg hz]
  unfold robD at c7 ⊢
  refine fe Tryz.func99 Tryz.ntmps99 Tryz.results99 fun hwf=>?_
  try simp (maxSteps:=9^9) only[go_sem]
  repeat refine AI ?_
  refine cw c1 ?_
  try simp (maxSteps:=9^9) only[go_sem]
  repeat refine AI ?_
  refine cw c2 ?_
  try simp (maxSteps:=9^9) only[go_sem]
  repeat refine AI ?_
  repeat refine AI ?_
  refine cw c4 ?_
  try simp (maxSteps:=9^9) only[go_sem]
  try simp (maxSteps:=9^9) only[go_sem,d1]
  repeat refine AI ?_
  refine cw c6 ?_
  try simp (maxSteps:=9^9) only[go_sem]
  repeat refine AI ?_
  refine cw c5 ?_
  try simp (maxSteps:=9^9) only[go_sem]
  repeat refine AI ?_
  refine cw c7 ?_
  try simp (maxSteps:=9^9) only[go_sem]
  all_goals repeat refine AI ?_
  all_goals first|kernel_rfl|omega|rfl
theorem hull_mem {l:List DV} {x:DV} (h:x ∈ hullD l):x ∈ l:=by
 have hc:∀ {m:List DV},x ∈ chD m->x ∈ m:=fun {m} hx=>by
  have h1:x ∈ (chR m).reverse:=List.dropLast_subset _ hx
  have h2:x ∈ chRi m m.length:=by unfold chRi; rw [List.take_length]; exact List.mem_reverse.1 h1
  exact chRi_mem h2
 unfold hullD at h
 split at h
 ·exact srtD_mem.1 h
 ·rcases List.mem_append.1 h with h|h
  ·exact srtD_mem.1 (hc h)
  ·exact srtD_mem.1 (List.mem_reverse.1 (hc h))
theorem trn_aba (a b:DV):trn a b a=0:=by unfold trn; simp
theorem trn_aab (a b:DV):trn a a b=0:=by unfold trn; simp
theorem poly_nd {l:List DV} (h:polyP l):l.Nodup:=by
 rw [List.Nodup,List.pairwise_iff_getElem]
 intro i j hi hj hij e
 have h3:=h.1.1
 have h3':3<=l.length:=by omega
 have hr:=nxt_rng (n:=l.length) (i:=i) (by omega)
 by_cases hn:(j:Int)=nxt l.length i
 ·obtain ⟨k,hk,k1,k2⟩:∃ k,k < l.length/\k ≠ i/\k ≠ j:=by
   by_cases q0:i ≠ 0/\j ≠ 0
   ·exact ⟨0,by omega,by omega,by omega⟩
   ·by_cases q1:i ≠ 1/\j ≠ 1
    ·exact ⟨1,by omega,by omega,by omega⟩
    ·exact ⟨2,by omega,by omega,by omega⟩
  have h2:=h.2.2 i k hi hk (by omega) (by omega)
  rw [show (nxt l.length i).toNat=j by omega,nth_lt (t:=tVec) (l:=l) hi,nth_lt (t:=tVec) (l:=l) hj,e,trn_aab] at h2
  omega
 ·have h2:=h.2.2 i j hi hj (by omega) hn
  rw [nth_lt (t:=tVec) (l:=l) hj,<-e,nth_lt (t:=tVec) (l:=l) hi,trn_aba] at h2
  omega
theorem nd_len {α:Type} [DecidableEq α]:∀ {l m:List α},l.Nodup->(∀ x ∈ l,x ∈ m)->l.length<=m.length
 | [],m,_,_=>Nat.zero_le _
 | a :: l,m,hn,hs=>by
  rw [List.nodup_cons] at hn
  have ha:=hs a List.mem_cons_self
  have:=nd_len (m:=m.erase a) hn.2 fun x hx=>(List.mem_erase_of_ne (fun e=>hn.1 (by rw [<-e]; exact hx))).2 (hs x (List.mem_cons_of_mem _ hx))
  rw [List.length_erase_of_mem ha] at this
  have h0:0 < m.length:=List.length_pos_of_mem ha
  rw [List.length_cons]; omega
theorem allIn_of {k:Int} {l:List DV} (h:∀ v ∈ l,inB k v=true):allIn k l=true:=allIn_t fun i hi=>h _ (nth_mem hi)
theorem pgT_ok:smB pgT 20=true:=by
 have hp:polyP pgT:=by
  refine ⟨by decide,by decide,?_⟩
  intro i k hi hk
  have hi:i < 3:=hi
  have hk:k < 3:=hk
  match i,k,hi,hk with
  | 0,0,_,_=>exact fun h=>absurd rfl h
  | 0,1,_,_=>exact fun _ h=>absurd rfl h
  | 0,2,_,_=>exact fun _ _=>by decide
  | 1,0,_,_=>exact fun _ _=>by decide
  | 1,1,_,_=>exact fun h=>absurd rfl h
  | 1,2,_,_=>exact fun _ h=>absurd rfl h
  | 2,0,_,_=>exact fun _ h=>absurd rfl h
  | 2,1,_,_=>exact fun _ _=>by decide
  | 2,2,_,_=>exact fun h=>absurd rfl h
 unfold smB
 rw [polyB_t hp]
 decide
variable {code:List Int}
theorem pgD_ok (m:Int) (hm:1<=m/\m<=20):∀ (k:Nat) (c:Cu code),smB (pgD c m k).1 20=true
 | 0,c=>pgT_ok
 | k+1,c=>by
  unfold pgD
  split
  ·rename_i h
   have hp:polyP (pgH c m):=@of_decide_eq_true _ (Classical.propDecidable _) h
   have hn:=pgN_rng c
   have h5:=nd_len (poly_nd hp) fun x hx=>hull_mem hx
   rw [pvL_len] at h5
   have hin:∀ v ∈ pgH c m,inB 20 v=true:=fun v hv=>by
    have:=inB_b (pvL_in c.next (m:=m) (by omega) _ v (hull_mem hv))
    exact inB_of (by omega) (by omega) (by omega) (by omega)
   unfold smB
   rw [h,allIn_of hin,decide_eq_true (by show ((pgH c m).length:Int)<=_; omega)]; rfl
  ·exact pgD_ok m hm k (pgC c)
def zrL (l:List DS) (i:Nat):List DS:=(l.take i).map (fun x=>((0:Int),x.2))++l.drop i
theorem zrL_len (l:List DS) (i:Nat):(zrL l i).length=l.length:=by
 unfold zrL
 rw [List.length_append,List.length_map,List.length_take,List.length_drop]; omega
theorem zrL_step {l:List DS} {i:Nat} (h:i < l.length):setFst (B:=tPoint) (zrL l i) i 0=zrL l (i+1):=by
 have hlt:(List.map (fun x:DS=>((0:Int),x.2)) (l.take i)).length=i:=by rw [List.length_map,List.length_take]; omega
 have e:nth (t:=tStep) (zrL l i) i=l[i]:=by
  rw [nth_lt (by rw [zrL_len]; exact h)]
  unfold zrL
  rw [List.getElem_append_right (by omega),List.getElem_drop]
  congr 1; omega
 unfold setFst
 rw [show nth (t:=.prod .int tPoint) (zrL l i) i=l[i] from e]
 unfold zrL
 rw [List.set_append_right _ _ (by omega),hlt,Nat.sub_self,List.take_succ_eq_append_getElem h,List.map_append,List.drop_eq_getElem_cons h,List.set_cons_zero,List.append_assoc]
 rfl
theorem zrL_zero (l:List DS):zrL l 0=l:=rfl
theorem zrL_all {l:List DS} {i:Nat} (h:l.length<=i):zrL l i=l.map fun x=>((0:Int),x.2):=by
 unfold zrL
 rw [List.take_of_length_le h,List.drop_of_length_le h,List.append_nil]
noncomputable def mtC (c:Cu code):Nat->Cu code
 | 0=>c
 | i+1=>(tdE (mtC c i)).next
noncomputable def mtT (c:Cu code) (i:Nat):DT:=(tdR (mtC c i),((tdS (mtC c i)).1,ptV (8 * (i:Int),(tdE (mtC c i)).below 3)),(tdL (mtC c i)).map fun x=>((0:Int),x.2))
noncomputable def mtL (c:Cu code) (k:Nat):List DT:=(List.range k).map (mtT c)
theorem mtL_len (c:Cu code) (k:Nat):(mtL c k).length=k:=by simp [mtL]
theorem mtL_succ (c:Cu code) (k:Nat):mtL c (k+1)=mtL c k++[mtT c k]:=by simp [mtL,List.range_succ]
def mtN (code:List Int) (hc:code.length<=1048576):Nat:=(1+(Cu.new code hc).below 3).toNat
theorem mtN_rng (hc:code.length<=1048576):1<=mtN code hc/\mtN code hc<=3:=by
 have:=(Cu.new code hc).below_rng (n:=3) (by decide)
 unfold mtN; omega
noncomputable def mkT (code:List Int) (hc:code.length<=1048576):List DT:=mtL (Cu.new code hc).next (mtN code hc)
structure TrN (t:DT):Prop where
 ok:tourB t=true
 turn:∀ x ∈ t.2.2,x.1=0
 pt:∀ x ∈ t.2.2,ptB x.2
 start:ptB t.2.1.2
theorem tv_zero:∀ {l:List DS} {p:DS},(∀ x ∈ l,x.1=0/\ptB x.2)->tvGo p l=true
 | [],_,_=>rfl
 | x :: l,p,h=>by
  obtain ⟨h1,h2⟩:=h x List.mem_cons_self
  show (tvStep p x && tvGo (stp p x) l)=true
  rw [tv_zero fun y hy=>h y (List.mem_cons_of_mem _ hy)]
  unfold tvStep
  rw [h1,ptB_ok h2]; rfl
theorem mtT_ok (c:Cu code) {i:Nat} (hi:i<=3):TrN (mtT c i):=by
 have hb:=(tdE (mtC c i)).below_rng (n:=3) (by decide)
 have hst:ptB (ptV (8 * (i:Int),(tdE (mtC c i)).below 3)):=⟨_,inB_of (by show -100<=_; omega) (by show _<=(100:Int); omega) (by show -100<=_; omega) (by show _<=(100:Int); omega),rfl⟩
 have hz:∀ x ∈ (tdL (mtC c i)).map (fun x=>((0:Int),x.2)),x.1=0/\ptB x.2:=fun x hx=>by
  obtain ⟨y,hy,rfl⟩:=List.mem_map.1 hx
  exact ⟨rfl,lsL_pt _ (tdS_pt _) _ y hy⟩
 refine ⟨?_,fun x hx=>(hz x hx).1,fun x hx=>(hz x hx).2,hst⟩
 have h4:=(tdC (mtC c i)).below_rng (n:=4) (by decide)
 have hN:tdN (mtC c i)<=3:=by
  have:=(tdC (mtC c i)).next.next.next.below_rng (n:=4) (by decide)
  unfold tdN; omega
 have hll:((tdL (mtC c i)).map fun x=>((0:Int),x.2)).length<=3:=by
  rw [List.length_map]; unfold tdL; rw [lsL_len]; exact hN
 unfold tourB
 have e1:smB (mtT c i).1 20=true:=pgD_ok 2 (by decide) 8 (mtC c i)
 have e2:decide (0<=(mtT c i).2.1.1/\(mtT c i).2.1.1<=3)=true:=decide_eq_true (by show 0<=(tdC (mtC c i)).below 4/\(tdC (mtC c i)).below 4<=3; omega)
 have e3:okPt (mtT c i).2.1.2=true:=ptB_ok hst
 have e4:decide (((mtT c i).2.2.length:Int)<=8)=true:=decide_eq_true (by show (((tdL (mtC c i)).map fun x=>((0:Int),x.2)).length:Int)<=8; omega)
 have e5:tvGo (mtT c i).2.1 (mtT c i).2.2=true:=tv_zero hz
 rw [e1,e2,e3,e4,e5]; rfl
theorem mkT_ok (hc:code.length<=1048576):∀ t ∈ mkT code hc,TrN t:=fun t ht=>by
 obtain ⟨i,hi,rfl⟩:=List.mem_map.1 ht
 have:=mtN_rng hc
 exact mtT_ok _ (by have:=List.mem_range.1 hi; omega)
theorem plc_pt:∀ {l:List DS} {p:DS},ptB p.2->(∀ x ∈ l,ptB x.2)->ptB (plcF p l).2
 | [],_,h,_=>h
 | x :: l,p,h,hl=>plc_pt (l:=l) (p:=stp p x) (stp_pt h (hl x List.mem_cons_self)) fun y hy=>hl y (List.mem_cons_of_mem _ hy)
theorem TrN.stand {t:DT} (h:TrN t) (k:Int):ptB (standP t k).2:=plc_pt h.start fun x hx=>h.pt x (List.mem_of_mem_take hx)
variable {code:List Int}
@[go_sem] theorem bts_Tour:bts Tryz.prog 38=some 168:=by kernel_rfl
set_option maxHeartbeats 4000000 in
theorem MakeTours_fn (hc:code.length<=1048576):Fn Tryz.prog 9 [⟨.slice .u8,code⟩] false [⟨.slice tTour,mkT code hc⟩]:=by
 have cn:=l01New_fn hc
 have c0:=l01Below_fn hc (Cu.new code hc) 3 (by decide)
 have r0:=(Cu.new code hc).below_rng (n:=3) (by decide)
 have eN:1+(Cu.new code hc).below 3=(mtN code hc:Int):=by unfold mtN; omega
 have rN:=mtN_rng hc
 unfold mkT
 generalize mtN code hc=N at *
 generalize hC:(Cu.new code hc).next=C at *
 generalize (Cu.new code hc).below 3=z0 at *
 refine fe Tryz.func9 Tryz.ntmps9 Tryz.results9 fun hwf=>?_
 try simp (maxSteps:=9^9) only[go_sem]
 repeat refine AI ?_
 refine CallW.nb (cn) ?_
 try simp (maxSteps:=9^9) only[go_sem]
 repeat refine AI ?_
 refine CallW.c false (c0) ?_
 try simp (maxSteps:=9^9) only[go_sem]
 repeat refine AI ?_
 try simp (maxSteps:=9^9) only[go_sem,eN]
 repeat refine AI ?_
 refine LoopG.intro _ _ _ (fun k:Nat=>⟨[(3,.ptr 0 0),(4,.row 1 0),(5,.sc (.int .i64 ((N:Int) - k)))],[(0,.box (.sl .u8 code :: (cz (mtC C k)).map fun z=>.sc z)),(1,.row 38 tTour 0 false (mtL C k))]⟩) (fun k=>k<=N) (fun k=>N - k) 0 ?_ (Nat.zero_le _) ?_
 ·exact WK
 ·rintro k hk
  have hml:=mtL_len C k
  have c1:=l27Draw_fn hc (mtC C k)
  have c2:=l01Below_fn hc (tdE (mtC C k)) 3 (by decide)
  have r2:=(tdE (mtC C k)).below_rng (n:=3) (by decide)
  have c3:=PointOfS_fn (8 * (k:Int),(tdE (mtC C k)).below 3)
  have em:=mtL_succ C k
  unfold mtT at em
  generalize ptV (8 * (k:Int),(tdE (mtC C k)).below 3)=p0 at *
  generalize tdR (mtC C k)=R at *
  generalize tdS (mtC C k)=s0 at *
  have hL:(tdL (mtC C k)).length<=3:=by
   have:=(tdC (mtC C k)).next.next.next.below_rng (n:=4) (by decide)
   unfold tdL; rw [lsL_len]; unfold tdN; omega
  generalize tdL (mtC C k)=L at *
  have ec:mtC C (k+1)=(tdE (mtC C k)).next:=rfl
  generalize (tdE (mtC C k)).next=E at *
  try simp (maxSteps:=9^9) only[go_sem]
  refine CondW_dec (fun hA=>?_) (fun hA=>?_)
  ·try simp (maxSteps:=9^9) only[go_sem]
   repeat refine AI ?_
   refine CallW.c true (c1) ?_
   try simp (maxSteps:=9^9) only[go_sem]
   try simp (maxSteps:=9^9) only[go_sem,hml]
   repeat refine AI ?_
   refine CallW.c false (c2) ?_
   try simp (maxSteps:=9^9) only[go_sem]
   repeat refine AI ?_
   repeat refine AI ?_
   refine cw c3 ?_
   try simp (maxSteps:=9^9) only[go_sem]
   refine LoopG.intro _ _ _ (fun i:Nat=>⟨[(3,.ptr 0 0),(4,.row 1 0),(5,.sc (.int .i64 ((N:Int) - k))),(6,.ptr 8 0),(31,.sc (.int .i64 L.length)),(32,.sc (.int .i64 i))],[(0,.box (.sl .u8 code :: (cz E).map fun z=>.sc z)),(1,.row 38 tTour 0 false (mtL C k)),(2,.mine tVec R),(7,.mine tStep (zrL L i)),(8,.box [.row 2 0,.sc (.int .i64 s0.1),.sc (.bool p0.1.1.1),.row 9 0,.row 10 0,.sc (.bool p0.2.1.1),.row 11 0,.row 12 0,.row 7 0]),(9,.odat .int p0.1.1.2),(10,.odat .int p0.1.2),(11,.odat .int p0.2.1.2),(12,.odat .int p0.2.2)]⟩) (fun i=>i<=L.length) (fun i=>L.length - i) 0 ?_ (Nat.zero_le _) ?_
   ·rw [zrL_zero]
    exact WK
   ·rintro i hi
    have hzl:=zrL_len L i
    try simp (maxSteps:=9^9) only[go_sem]
    refine CondW_dec (fun hB=>?_) (fun hB=>?_)
    ·have hst:=zrL_step (l:=L) (i:=i) (by omega)
     try simp (maxSteps:=9^9) only[go_sem]
     repeat refine AI ?_
     refine LoopK.mk (i+1) ?_ (by omega) (by omega)
     rw [<-hst]
     exact WK
    ·have hza:=zrL_all (l:=L) (i:=i) (by omega)
     rw [hza] at *
     try simp (maxSteps:=9^9) only[go_sem,hml]
     repeat refine AI ?_
     try simp (maxSteps:=9^9) only[go_sem,hml]
     repeat refine AI ?_
     refine LoopK.mk (k+1) ?_ (by omega) (by omega)
     rw [em,ec]
     exact WK
  ·have e:N=k:=by omega
   subst e
   try simp (maxSteps:=9^9) only[go_sem]
   all_goals repeat refine AI ?_
   all_goals first|kernel_rfl|omega|rfl
theorem indexFunc_tour_fn (F:FuncId) (A:Ty) (x:A.den) (p:DT->Bool) (l:List DT) (hF:∀ y ∈ l,Fn Tryz.prog F (⟨tTour,y⟩ :: capD A x) false [⟨.bool,p y⟩]):Fn Tryz.prog 67 [⟨.slice tTour,l⟩,⟨.ext (.clo F) A,some x⟩] false [⟨.int,ixf (t:=tTour) p l⟩]:=by
 refine fe Tryz.func67 Tryz.ntmps67 Tryz.results67 fun hwf=>?_
 have hl:l.length<=9223372036854775807:=(hwf ⟨.slice tTour,l⟩ (by simp)).1
 try simp (maxSteps:=9^9) only[go_sem]
 refine LoopG.intro _ _ _ (fun i:Nat=>⟨[(0,.sl tTour l),(1,.ex (.clo F) A (some x)),(7,.sc (.int .i64 l.length)),(8,.sc (.int .i64 i))],[]⟩) (fun i=>∀ j < i,j < l.length->p (nth (t:=tTour) l j)=false) (fun i=>l.length - i) 0 ?_ (fun j h=>by simp at h) ?_
 ·exact WK
 ·rintro i h2
  try simp (maxSteps:=9^9) only[go_sem]
  refine CondW_dec (fun h3=>?_) (fun h3=>?_)
  ·have c1:=hF (nth (t:=tTour) l i) (nth_memT (by omega))
   try simp (maxSteps:=9^9) only[go_sem]
   repeat refine AI ?_
   repeat refine AI ?_
   refine CallD.mk (c1) ?_
   try simp (maxSteps:=9^9) only[go_sem]
   refine CondW_b (fun h4=>?_) (fun h4=>?_)
   ·try simp (maxSteps:=9^9) only[go_sem]
    exact (ixf_at (by omega) h4 (fun j hj=>h2 j hj (by omega))).symm
   ·try simp (maxSteps:=9^9) only[go_sem]
    repeat refine AI ?_
    refine LoopK.mk (i+1) ?_ (fun j hj hl=>?_) (by omega)
    ·exact WK
    ·by_cases hj2:j < i
     ·exact h2 j hj2 hl
     ·rw [show j=i by omega]; exact h4
  ·try simp (maxSteps:=9^9) only[go_sem]
   exact (ixf_none fun j hj=>h2 j (by omega) hj).symm
theorem containsFunc_tour_fn (F:FuncId) (A:Ty) (x:A.den) (p:DT->Bool) (l:List DT) (hF:∀ y ∈ l,Fn Tryz.prog F (⟨tTour,y⟩ :: capD A x) false [⟨.bool,p y⟩]):Fn Tryz.prog 39 [⟨.slice tTour,l⟩,⟨.ext (.clo F) A,some x⟩] false [⟨.bool,l.any p⟩]:=by
 have c1:=indexFunc_tour_fn F A x p l hF
 refine fe Tryz.func39 Tryz.ntmps39 Tryz.results39 fun hwf=>?_
 try simp (maxSteps:=9^9) only[go_sem]
 repeat refine AI ?_
 refine cw c1 ?_
 try simp (maxSteps:=9^9) only[go_sem]
 exact ixf_any
theorem areToursC_fn (a b:DT) (ha:tourB a=true) (hb:tourB b=true):Fn Tryz.prog 40 [⟨tTour,b⟩,⟨.ext .ref tTour,some a⟩] false [⟨.bool,stTB a 0 b 0⟩]:=by
 have c1:=standsTouch_fn a 0 b 0 ha hb
 refine fe Tryz.func40 Tryz.ntmps40 Tryz.results40 fun hwf=>?_
 try simp (maxSteps:=9^9) only[go_sem]
 repeat refine AI ?_
 refine cw c1 ?_
 try simp (maxSteps:=9^9) only[go_sem]
 all_goals repeat refine AI ?_
 all_goals first|kernel_rfl|omega|rfl
def arAt (l:List DT) (i:Nat):Prop:=tourB (nth (t:=tTour) l i)=true/\∀ j,j < i->stTB (nth (t:=tTour) l i) 0 (nth (t:=tTour) l j) 0=false
def arP (l:List DT):Prop:=∀ i,i < l.length->arAt l i
noncomputable def arB (l:List DT):Bool:=decide (1<=(l.length:Int)/\(l.length:Int)<=3) && bdec (arP l)
theorem nth_take {l:List DT} {i j:Nat} (h:j < i) (h2:i<=l.length):nth (t:=tTour) (l.take i) j=nth (t:=tTour) l j:=by
 rw [nth_lt (t:=tTour) (l:=l.take i) (by rw [List.length_take]; omega),nth_lt (t:=tTour) (l:=l) (by omega),List.getElem_take]
theorem mem_take_nth {l:List DT} {i:Nat} {y:DT} (h:y ∈ l.take i) (h2:i<=l.length):∃ j,j < i/\nth (t:=tTour) l j=y:=by
 obtain ⟨j,hj,rfl⟩:=List.getElem_of_mem h
 rw [List.length_take] at hj
 exact ⟨j,by omega,by rw [<-nth_take (by omega) h2,nth_lt]⟩
theorem AreToursI_fn (l:List DT):Fn Tryz.prog 11 [⟨.slice tTour,l⟩] false [⟨.bool,arB l⟩]:=by
 have c0:=within_fn l.length 1 3
 unfold arB
 by_cases h0:1<=(l.length:Int)/\(l.length:Int)<=3
 ·rw [decide_eq_true h0] at c0 ⊢
  refine fe Tryz.func11 Tryz.ntmps11 Tryz.results11 fun hwf=>?_
  try simp (maxSteps:=9^9) only[go_sem]
  repeat refine AI ?_
  refine cw c0 ?_
  try simp (maxSteps:=9^9) only[go_sem]
  refine LoopG.intro _ _ _ (fun i:Nat=>⟨[(0,.sl tTour l),(9,.sl tTour l),(10,.sc (.int .i64 l.length)),(11,.sc (.int .i64 i))],[]⟩) (fun i=>i<=l.length/\∀ j,j < i->arAt l j) (fun i=>l.length - i) 0 ?_ ⟨Nat.zero_le _,fun j h=>absurd h (Nat.not_lt_zero _)⟩ ?_
  ·exact WK
  ·rintro i ⟨hi,hall⟩
   try simp (maxSteps:=9^9) only[go_sem]
   refine CondW_dec (fun hA=>?_) (fun hA=>?_)
   ·have hlt:i < l.length:=by omega
    have c1:=implIsValidTour_fn (nth (t:=tTour) l i)
    cases ht:tourB (nth (t:=tTour) l i)<;>rw [ht] at c1
    ·have e:bdec (arP l)=false:=bdec_f fun h=>by have:=(h i hlt).1; rw [ht] at this; cases this
     rw [e]
     try simp (maxSteps:=9^9) only[go_sem]
     repeat refine AI ?_
     repeat refine AI ?_
     refine cw c1 ?_
     try simp (maxSteps:=9^9) only[go_sem]
     all_goals repeat refine AI ?_
     all_goals first|kernel_rfl|omega|rfl
    ·have hF:∀ y ∈ l.take i,Fn Tryz.prog 40 (⟨tTour,y⟩ :: capD (.ext .ref tTour) (some (nth (t:=tTour) l i))) false [⟨.bool,stTB (nth (t:=tTour) l i) 0 y 0⟩]:=fun y hy=>by
      obtain ⟨j,hj,rfl⟩:=mem_take_nth hy (by omega)
      exact areToursC_fn _ _ ht (hall j hj).1
     have c2:=containsFunc_tour_fn 40 (.ext .ref tTour) (some (nth (t:=tTour) l i)) (fun y=>stTB (nth (t:=tTour) l i) 0 y 0) (l.take i) hF
     cases ha:(l.take i).any (fun y=>stTB (nth (t:=tTour) l i) 0 y 0)<;>rw [ha] at c2
     ·try simp (maxSteps:=9^9) only[go_sem]
      repeat refine AI ?_
      repeat refine AI ?_
      refine cw c1 ?_
      try simp (maxSteps:=9^9) only[go_sem]
      repeat refine AI ?_
      repeat refine AI ?_
      refine CallK.mk (c2) ?_
      try simp (maxSteps:=9^9) only[go_sem]
      repeat refine AI ?_
      refine LoopK.mk (i+1) ?_ ⟨by omega,fun j hj=>?_⟩ (by omega)
      ·exact WK
      ·by_cases h:j < i
       ·exact hall j h
       ·rw [show j=i by omega]
        refine ⟨ht,fun j' hj'=>?_⟩
        rw [List.any_eq_false] at ha
        have:=ha (nth (t:=tTour) l j') (by rw [<-nth_take hj' (by omega)]; exact nth_memT (t:=tTour) (by rw [List.length_take]; omega))
        simpa using this
     ·have e:bdec (arP l)=false:=bdec_f fun h=>by
       obtain ⟨y,hy,hyt⟩:=List.any_eq_true.1 ha
       obtain ⟨j,hj,rfl⟩:=mem_take_nth hy (by omega)
       have:=(h i hlt).2 j hj
       rw [this] at hyt; cases hyt
      rw [e]
      try simp (maxSteps:=9^9) only[go_sem]
      repeat refine AI ?_
      repeat refine AI ?_
      refine cw c1 ?_
      try simp (maxSteps:=9^9) only[go_sem]
      repeat refine AI ?_
      repeat refine AI ?_
      refine CallK.mk (c2) ?_
      try simp (maxSteps:=9^9) only[go_sem]
      all_goals repeat refine AI ?_
      all_goals first|kernel_rfl|omega|rfl
   ·have e:bdec (arP l)=true:=bdec_t fun j hj=>hall j (by omega)
    rw [e]
    try simp (maxSteps:=9^9) only[go_sem]
    all_goals repeat refine AI ?_
    all_goals first|kernel_rfl|omega|rfl
 ·rw [decide_eq_false h0] at c0 ⊢
  refine fe Tryz.func11 Tryz.ntmps11 Tryz.results11 fun hwf=>?_
  try simp (maxSteps:=9^9) only[go_sem]
  repeat refine AI ?_
  refine cw c0 ?_
  try simp (maxSteps:=9^9) only[go_sem]
  all_goals repeat refine AI ?_
  all_goals first|kernel_rfl|omega|rfl
noncomputable def tabRow (a b:DT) (i:Nat) (n:Nat):List Bool:=(List.range n).map fun (j:Nat)=>stpTB a i b j
noncomputable def tabTo (a b:DT) (n:Nat):List (List Bool):=(List.range n).map fun (i:Nat)=>tabRow a b i (b.2.2.length+1)
noncomputable def tabD (a b:DT):List (List Bool):=if (tourB a && tourB b)=true then tabTo a b a.2.2.length else []
theorem tabRow_s (a b:DT) (i n:Nat):tabRow a b i (n+1)=tabRow a b i n++[stpTB a i b n]:=by
 unfold tabRow; rw [List.range_succ,List.map_append]; rfl
theorem tabTo_s (a b:DT) (n:Nat):tabTo a b (n+1)=tabTo a b n++[tabRow a b n (b.2.2.length+1)]:=by
 unfold tabTo; rw [List.range_succ,List.map_append]; rfl
theorem tabRow_len (a b:DT) (i n:Nat):(tabRow a b i n).length=n:=by simp [tabRow]
theorem tabTo_len (a b:DT) (n:Nat):(tabTo a b n).length=n:=by simp [tabTo]
theorem TouchTableI_fn (a b:DT):Fn Tryz.prog 66 [⟨tTour,a⟩,⟨tTour,b⟩] true [⟨.slice (.slice .bool),tabD a b⟩]:=by
 have v1:=implIsValidTour_fn a
 have v2:=implIsValidTour_fn b
 cases ha:tourB a
 ·rw [ha] at v1
  rw [show tabD a b=[] from if_neg (by rw [ha]; simp)]
  refine fe Tryz.func66 Tryz.ntmps66 Tryz.results66 fun hwf=>?_
  try simp (maxSteps:=9^9) only[go_sem]
  repeat refine AI ?_
  refine cw v1 ?_
  try simp (maxSteps:=9^9) only[go_sem]
  all_goals repeat refine AI ?_
  all_goals first|kernel_rfl|omega|rfl
 ·rw [ha] at v1
  cases hb:tourB b
  ·rw [hb] at v2
   rw [show tabD a b=[] from if_neg (by rw [hb,Bool.and_false]; decide)]
   refine fe Tryz.func66 Tryz.ntmps66 Tryz.results66 fun hwf=>?_
   try simp (maxSteps:=9^9) only[go_sem]
   repeat refine AI ?_
   refine cw v1 ?_
   try simp (maxSteps:=9^9) only[go_sem]
   repeat refine AI ?_
   refine cw v2 ?_
   try simp (maxSteps:=9^9) only[go_sem]
   all_goals repeat refine AI ?_
   all_goals first|kernel_rfl|omega|rfl
  ·rw [hb] at v2
   rw [show tabD a b=tabTo a b a.2.2.length from if_pos (by rw [ha,hb]; rfl)]
   have hla:=(tour_parts ha).2.2.2.1
   have hlb:=(tour_parts hb).2.2.2.1
   refine fe Tryz.func66 Tryz.ntmps66 Tryz.results66 fun hwf=>?_
   try simp (maxSteps:=9^9) only[go_sem]
   repeat refine AI ?_
   refine cw v1 ?_
   try simp (maxSteps:=9^9) only[go_sem]
   repeat refine AI ?_
   refine cw v2 ?_
   try simp (maxSteps:=9^9) only[go_sem]
   repeat refine AI ?_
   refine LoopG.intro _ _ _ (fun i:Nat=>⟨[(2,.ptr 0 0),(3,.ptr 1 0),(5,.row 2 0),(20,.sc (.int .i64 a.2.2.length)),(21,.sc (.int .i64 i))],[(0,.box (cel tTour a)),(1,.box (cel tTour b)),(2,.row 95 (.slice .bool) 0 true (tabTo a b i))]⟩) (fun i=>i<=a.2.2.length) (fun i=>a.2.2.length - i) 0 ?_ (Nat.zero_le _) ?_
   ·exact WK
   ·rintro i hi
    try simp (maxSteps:=9^9) only[go_sem]
    refine CondW_dec (fun hA=>?_) (fun hA=>?_)
    ·try simp (maxSteps:=9^9) only[go_sem]
     repeat refine AI ?_
     refine LoopG.intro _ _ _ (fun j:Nat=>⟨[(2,.ptr 0 0),(3,.ptr 1 0),(5,.row 2 0),(6,.sc (.int .i64 i)),(7,.row 3 0),(20,.sc (.int .i64 a.2.2.length)),(21,.sc (.int .i64 i)),(28,.sc (.int .i64 ((b.2.2.length:Int)+1))),(29,.sc (.int .i64 j))],[(0,.box (cel tTour a)),(1,.box (cel tTour b)),(2,.row 95 (.slice .bool) 0 true (tabTo a b i)),(3,.row 4 .bool 0 true (tabRow a b i j))]⟩) (fun j=>j<=b.2.2.length+1) (fun j=>b.2.2.length+1 - j) 0 ?_ (Nat.zero_le _) ?_
     ·exact WK
     ·rintro j hj
      have hrl:=tabRow_len a b i j
      try simp (maxSteps:=9^9) only[go_sem]
      refine CondW_dec (fun hB=>?_) (fun hB=>?_)
      ·have c1:=stepTouches_fn a i b j ha hb (by omega) (by omega)
       try simp (maxSteps:=9^9) only[go_sem]
       repeat refine AI ?_
       repeat refine AI ?_
       refine cw c1 ?_
       try simp (maxSteps:=9^9) only[go_sem]
       try simp (maxSteps:=9^9) only[go_sem,hrl]
       repeat refine AI ?_
       refine LoopK.mk (j+1) ?_ (by omega) (by omega)
       rw [tabRow_s]
       exact WK
      ·have hj2:j=b.2.2.length+1:=by omega
       subst hj2
       have htl:=tabTo_len a b i
       try simp (maxSteps:=9^9) only[go_sem,htl]
       repeat refine AI ?_
       refine LoopK.mk (i+1) ?_ (by omega) (by omega)
       rw [tabTo_s]
       exact WK
    ·have hi2:i=a.2.2.length:=by omega
     subst hi2
     try simp (maxSteps:=9^9) only[go_sem]
     all_goals repeat refine AI ?_
     all_goals first|kernel_rfl|omega|rfl
def stAt (l:List DT) (st:List Int) (i:Nat):Prop:=0<=ni st i/\ni st i<=(nth (t:=tTour) l i).2.2.length
def stP (l:List DT) (st:List Int):Prop:=st.length=l.length/\∀ i,i < st.length->stAt l st i
def frAt (l:List DT) (st:List Int) (k j:Nat):Prop:=j ≠ k->stpTB (nth (t:=tTour) l k) (ni st k) (nth (t:=tTour) l j) (ni st j)=false
def frP (l:List DT) (st:List Int) (k:Nat):Prop:=ni st k ≠ (nth (t:=tTour) l k).2.2.length/\∀ j,j < l.length->frAt l st k j
theorem arB_p {l:List DT} (h:arB l=true):(1<=l.length/\l.length<=3)/\arP l:=by
 unfold arB at h
 rw [Bool.and_eq_true] at h
 have h1:=of_decide_eq_true h.1
 refine ⟨by omega,?_⟩
 by_cases hp:arP l
 ·exact hp
 ·rw [bdec_f hp] at h; exact absurd h.2 (by decide)
noncomputable def plT1 (l:List DT):tTabs.den:=((([],[],[]),([],[],[]),([],[],[])))
noncomputable def plD1 (l:List DT):tPlanner.den:=(l,(plT1 l,some 0))
set_option maxHeartbeats 4000000 in
theorem newPlanner_fn1 (l:List DT) (hl:l.length=1):FnNP Tryz.prog 33 [⟨.slice tTour,l⟩] tPl0 (l,plT1 l):=by
 unfold plT1
 refine fnNP_enter tabOK mixes Tryz.func33 rfl rfl _ Tryz.ntmps33 _ Tryz.results33 (by simp) fun hwf=>?_
 try simp (maxSteps:=9^9) only[go_sem]
 repeat refine AI ?_
 refine LoopG.intro _ _ _ (fun y:Nat=>match y with|0=>⟨[(0,.sl tTour l),(3,.ptr 1 0),(12,.sl tTour l),(13,.sc (.int .i64 l.length)),(14,.sc (.int .i64 0))],[(0,.ob none 0 (.map [])),(1,.box [.sl tTour l,.sl (.slice .bool) ([]),.sl (.slice .bool) ([]),.sl (.slice .bool) ([]),.sl (.slice .bool) ([]),.sl (.slice .bool) ([]),.sl (.slice .bool) ([]),.sl (.slice .bool) ([]),.sl (.slice .bool) ([]),.sl (.slice .bool) ([]),.row 0 0])]⟩|_=>⟨[(0,.sl tTour l),(3,.ptr 1 0),(12,.sl tTour l),(13,.sc (.int .i64 l.length)),(14,.sc (.int .i64 1))],[(0,.ob none 0 (.map [])),(1,.box [.sl tTour l,.sl (.slice .bool) ([]),.sl (.slice .bool) ([]),.sl (.slice .bool) ([]),.sl (.slice .bool) ([]),.sl (.slice .bool) ([]),.sl (.slice .bool) ([]),.sl (.slice .bool) ([]),.sl (.slice .bool) ([]),.sl (.slice .bool) ([]),.row 0 0])]⟩) (fun y=>y<=1) (fun y=>1 - y) 0 ?_ (Nat.zero_le _) ?_
 ·exact WK
 ·rintro y hy
  obtain rfl|rfl:y=0\/y=1:=by omega
  ·try simp (maxSteps:=9^9) only[go_sem]
   refine CondW_dec (fun hA=>?_) (fun hA=>absurd (by rw [hl]; decide) hA)
   try simp (maxSteps:=9^9) only[go_sem]
   repeat refine AI ?_
   refine LoopG.intro _ _ _ (fun z:Nat=>match z with|0=>⟨[(0,.sl tTour l),(3,.ptr 1 0),(4,.sc (.int .i64 0)),(5,.ptr 2 0),(12,.sl tTour l),(13,.sc (.int .i64 l.length)),(14,.sc (.int .i64 0)),(19,.sl tTour l),(20,.sc (.int .i64 l.length)),(21,.sc (.int .i64 0))],[(0,.ob none 0 (.map [])),(1,.box [.sl tTour l,.sl (.slice .bool) ([]),.sl (.slice .bool) ([]),.sl (.slice .bool) ([]),.sl (.slice .bool) ([]),.sl (.slice .bool) ([]),.sl (.slice .bool) ([]),.sl (.slice .bool) ([]),.sl (.slice .bool) ([]),.sl (.slice .bool) ([]),.row 0 0]),(2,.box (cel tTour (nth (t:=tTour) l 0)))]⟩|_=>⟨[(0,.sl tTour l),(3,.ptr 1 0),(4,.sc (.int .i64 0)),(5,.ptr 2 0),(12,.sl tTour l),(13,.sc (.int .i64 l.length)),(14,.sc (.int .i64 0)),(19,.sl tTour l),(20,.sc (.int .i64 l.length)),(21,.sc (.int .i64 1))],[(0,.ob none 0 (.map [])),(1,.box [.sl tTour l,.sl (.slice .bool) ([]),.sl (.slice .bool) ([]),.sl (.slice .bool) ([]),.sl (.slice .bool) ([]),.sl (.slice .bool) ([]),.sl (.slice .bool) ([]),.sl (.slice .bool) ([]),.sl (.slice .bool) ([]),.sl (.slice .bool) ([]),.row 0 0]),(2,.box (cel tTour (nth (t:=tTour) l 0)))]⟩) (fun z=>z<=1) (fun z=>1 - z) 0 ?_ (Nat.zero_le _) ?_
   ·exact WK
   ·rintro z hz
    obtain rfl|rfl:z=0\/z=1:=by omega
    ·try simp (maxSteps:=9^9) only[go_sem]
     refine CondW_dec (fun hB=>?_) (fun hB=>absurd (by rw [hl]; decide) hB)
     try simp (maxSteps:=9^9) only[go_sem]
     repeat refine AI ?_
     refine LoopK.mk 1 ?_ (by omega) (by omega)
     exact WK
    ·try simp (maxSteps:=9^9) only[go_sem]
     refine CondW_dec (fun hB=>by rw [hl] at hB; exact absurd hB (by decide)) (fun hB=>?_)
     try simp (maxSteps:=9^9) only[go_sem]
     repeat refine AI ?_
     refine LoopK.mk 1 ?_ (by omega) (by omega)
     exact WK
  ·try simp (maxSteps:=9^9) only[go_sem]
   refine CondW_dec (fun hA=>by rw [hl] at hA; exact absurd hA (by decide)) (fun hA=>?_)
   try simp (maxSteps:=9^9) only[go_sem]
   all_goals repeat refine AI ?_
   all_goals first|kernel_rfl|omega|rfl
noncomputable def plT2 (l:List DT):tTabs.den:=((([],tabD (nth (t:=tTour) l 0) (nth (t:=tTour) l 1),[]),(tabD (nth (t:=tTour) l 1) (nth (t:=tTour) l 0),[],[]),([],[],[])))
noncomputable def plD2 (l:List DT):tPlanner.den:=(l,(plT2 l,some 0))
set_option maxHeartbeats 4000000 in
theorem newPlanner_fn2 (l:List DT) (hl:l.length=2):FnNP Tryz.prog 33 [⟨.slice tTour,l⟩] tPl0 (l,plT2 l):=by
 unfold plT2
 refine fnNP_enter tabOK mixes Tryz.func33 rfl rfl _ Tryz.ntmps33 _ Tryz.results33 (by simp) fun hwf=>?_
 try simp (maxSteps:=9^9) only[go_sem]
 repeat refine AI ?_
 refine LoopG.intro _ _ _ (fun y:Nat=>match y with|0=>⟨[(0,.sl tTour l),(3,.ptr 1 0),(12,.sl tTour l),(13,.sc (.int .i64 l.length)),(14,.sc (.int .i64 0))],[(0,.ob none 0 (.map [])),(1,.box [.sl tTour l,.sl (.slice .bool) ([]),.sl (.slice .bool) ([]),.sl (.slice .bool) ([]),.sl (.slice .bool) ([]),.sl (.slice .bool) ([]),.sl (.slice .bool) ([]),.sl (.slice .bool) ([]),.sl (.slice .bool) ([]),.sl (.slice .bool) ([]),.row 0 0])]⟩|1=>⟨[(0,.sl tTour l),(3,.ptr 1 0),(12,.sl tTour l),(13,.sc (.int .i64 l.length)),(14,.sc (.int .i64 1))],[(0,.ob none 0 (.map [])),(1,.box [.sl tTour l,.sl (.slice .bool) ([]),.sl (.slice .bool) (tabD (nth (t:=tTour) l 0) (nth (t:=tTour) l 1)),.sl (.slice .bool) ([]),.sl (.slice .bool) ([]),.sl (.slice .bool) ([]),.sl (.slice .bool) ([]),.sl (.slice .bool) ([]),.sl (.slice .bool) ([]),.sl (.slice .bool) ([]),.row 0 0])]⟩|_=>⟨[(0,.sl tTour l),(3,.ptr 1 0),(12,.sl tTour l),(13,.sc (.int .i64 l.length)),(14,.sc (.int .i64 2))],[(0,.ob none 0 (.map [])),(1,.box [.sl tTour l,.sl (.slice .bool) ([]),.sl (.slice .bool) (tabD (nth (t:=tTour) l 0) (nth (t:=tTour) l 1)),.sl (.slice .bool) ([]),.sl (.slice .bool) (tabD (nth (t:=tTour) l 1) (nth (t:=tTour) l 0)),.sl (.slice .bool) ([]),.sl (.slice .bool) ([]),.sl (.slice .bool) ([]),.sl (.slice .bool) ([]),.sl (.slice .bool) ([]),.row 0 0])]⟩) (fun y=>y<=2) (fun y=>2 - y) 0 ?_ (Nat.zero_le _) ?_
 ·exact WK
 ·rintro y hy
  obtain rfl|rfl|rfl:y=0\/y=1\/y=2:=by omega
  ·try simp (maxSteps:=9^9) only[go_sem]
   refine CondW_dec (fun hA=>?_) (fun hA=>absurd (by rw [hl]; decide) hA)
   try simp (maxSteps:=9^9) only[go_sem]
   repeat refine AI ?_
   refine LoopG.intro _ _ _ (fun z:Nat=>match z with|0=>⟨[(0,.sl tTour l),(3,.ptr 1 0),(4,.sc (.int .i64 0)),(5,.ptr 2 0),(12,.sl tTour l),(13,.sc (.int .i64 l.length)),(14,.sc (.int .i64 0)),(19,.sl tTour l),(20,.sc (.int .i64 l.length)),(21,.sc (.int .i64 0))],[(0,.ob none 0 (.map [])),(1,.box [.sl tTour l,.sl (.slice .bool) ([]),.sl (.slice .bool) ([]),.sl (.slice .bool) ([]),.sl (.slice .bool) ([]),.sl (.slice .bool) ([]),.sl (.slice .bool) ([]),.sl (.slice .bool) ([]),.sl (.slice .bool) ([]),.sl (.slice .bool) ([]),.row 0 0]),(2,.box (cel tTour (nth (t:=tTour) l 0)))]⟩|1=>⟨[(0,.sl tTour l),(3,.ptr 1 0),(4,.sc (.int .i64 0)),(5,.ptr 2 0),(12,.sl tTour l),(13,.sc (.int .i64 l.length)),(14,.sc (.int .i64 0)),(19,.sl tTour l),(20,.sc (.int .i64 l.length)),(21,.sc (.int .i64 1))],[(0,.ob none 0 (.map [])),(1,.box [.sl tTour l,.sl (.slice .bool) ([]),.sl (.slice .bool) ([]),.sl (.slice .bool) ([]),.sl (.slice .bool) ([]),.sl (.slice .bool) ([]),.sl (.slice .bool) ([]),.sl (.slice .bool) ([]),.sl (.slice .bool) ([]),.sl (.slice .bool) ([]),.row 0 0]),(2,.box (cel tTour (nth (t:=tTour) l 0)))]⟩|_=>⟨[(0,.sl tTour l),(3,.ptr 1 0),(4,.sc (.int .i64 0)),(5,.ptr 2 0),(12,.sl tTour l),(13,.sc (.int .i64 l.length)),(14,.sc (.int .i64 0)),(19,.sl tTour l),(20,.sc (.int .i64 l.length)),(21,.sc (.int .i64 2))],[(0,.ob none 0 (.map [])),(1,.box [.sl tTour l,.sl (.slice .bool) ([]),.sl (.slice .bool) (tabD (nth (t:=tTour) l 0) (nth (t:=tTour) l 1)),.sl (.slice .bool) ([]),.sl (.slice .bool) ([]),.sl (.slice .bool) ([]),.sl (.slice .bool) ([]),.sl (.slice .bool) ([]),.sl (.slice .bool) ([]),.sl (.slice .bool) ([]),.row 0 0]),(2,.box (cel tTour (nth (t:=tTour) l 0)))]⟩) (fun z=>z<=2) (fun z=>2 - z) 0 ?_ (Nat.zero_le _) ?_
   ·exact WK
   ·rintro z hz
    obtain rfl|rfl|rfl:z=0\/z=1\/z=2:=by omega
    ·try simp (maxSteps:=9^9) only[go_sem]
     refine CondW_dec (fun hB=>?_) (fun hB=>absurd (by rw [hl]; decide) hB)
     try simp (maxSteps:=9^9) only[go_sem]
     repeat refine AI ?_
     refine LoopK.mk 1 ?_ (by omega) (by omega)
     exact WK
    ·try simp (maxSteps:=9^9) only[go_sem]
     refine CondW_dec (fun hB=>?_) (fun hB=>absurd (by rw [hl]; decide) hB)
     have c1:=(TouchTableI_fn (nth (t:=tTour) l 0) (nth (t:=tTour) l 1)).sh
     try simp (maxSteps:=9^9) only[go_sem]
     repeat refine AI ?_
     repeat refine AI ?_
     refine cw c1 ?_
     try simp (maxSteps:=9^9) only[go_sem]
     repeat refine AI ?_
     refine LoopK.mk 2 ?_ (by omega) (by omega)
     exact WK
    ·try simp (maxSteps:=9^9) only[go_sem]
     refine CondW_dec (fun hB=>by rw [hl] at hB; exact absurd hB (by decide)) (fun hB=>?_)
     try simp (maxSteps:=9^9) only[go_sem]
     repeat refine AI ?_
     refine LoopK.mk 1 ?_ (by omega) (by omega)
     exact WK
  ·try simp (maxSteps:=9^9) only[go_sem]
   refine CondW_dec (fun hA=>?_) (fun hA=>absurd (by rw [hl]; decide) hA)
   try simp (maxSteps:=9^9) only[go_sem]
   repeat refine AI ?_
   refine LoopG.intro _ _ _ (fun z:Nat=>match z with|0=>⟨[(0,.sl tTour l),(3,.ptr 1 0),(4,.sc (.int .i64 1)),(5,.ptr 2 0),(12,.sl tTour l),(13,.sc (.int .i64 l.length)),(14,.sc (.int .i64 1)),(19,.sl tTour l),(20,.sc (.int .i64 l.length)),(21,.sc (.int .i64 0))],[(0,.ob none 0 (.map [])),(1,.box [.sl tTour l,.sl (.slice .bool) ([]),.sl (.slice .bool) (tabD (nth (t:=tTour) l 0) (nth (t:=tTour) l 1)),.sl (.slice .bool) ([]),.sl (.slice .bool) ([]),.sl (.slice .bool) ([]),.sl (.slice .bool) ([]),.sl (.slice .bool) ([]),.sl (.slice .bool) ([]),.sl (.slice .bool) ([]),.row 0 0]),(2,.box (cel tTour (nth (t:=tTour) l 1)))]⟩|1=>⟨[(0,.sl tTour l),(3,.ptr 1 0),(4,.sc (.int .i64 1)),(5,.ptr 2 0),(12,.sl tTour l),(13,.sc (.int .i64 l.length)),(14,.sc (.int .i64 1)),(19,.sl tTour l),(20,.sc (.int .i64 l.length)),(21,.sc (.int .i64 1))],[(0,.ob none 0 (.map [])),(1,.box [.sl tTour l,.sl (.slice .bool) ([]),.sl (.slice .bool) (tabD (nth (t:=tTour) l 0) (nth (t:=tTour) l 1)),.sl (.slice .bool) ([]),.sl (.slice .bool) (tabD (nth (t:=tTour) l 1) (nth (t:=tTour) l 0)),.sl (.slice .bool) ([]),.sl (.slice .bool) ([]),.sl (.slice .bool) ([]),.sl (.slice .bool) ([]),.sl (.slice .bool) ([]),.row 0 0]),(2,.box (cel tTour (nth (t:=tTour) l 1)))]⟩|_=>⟨[(0,.sl tTour l),(3,.ptr 1 0),(4,.sc (.int .i64 1)),(5,.ptr 2 0),(12,.sl tTour l),(13,.sc (.int .i64 l.length)),(14,.sc (.int .i64 1)),(19,.sl tTour l),(20,.sc (.int .i64 l.length)),(21,.sc (.int .i64 2))],[(0,.ob none 0 (.map [])),(1,.box [.sl tTour l,.sl (.slice .bool) ([]),.sl (.slice .bool) (tabD (nth (t:=tTour) l 0) (nth (t:=tTour) l 1)),.sl (.slice .bool) ([]),.sl (.slice .bool) (tabD (nth (t:=tTour) l 1) (nth (t:=tTour) l 0)),.sl (.slice .bool) ([]),.sl (.slice .bool) ([]),.sl (.slice .bool) ([]),.sl (.slice .bool) ([]),.sl (.slice .bool) ([]),.row 0 0]),(2,.box (cel tTour (nth (t:=tTour) l 1)))]⟩) (fun z=>z<=2) (fun z=>2 - z) 0 ?_ (Nat.zero_le _) ?_
   ·exact WK
   ·rintro z hz
    obtain rfl|rfl|rfl:z=0\/z=1\/z=2:=by omega
    ·try simp (maxSteps:=9^9) only[go_sem]
     refine CondW_dec (fun hB=>?_) (fun hB=>absurd (by rw [hl]; decide) hB)
     have c1:=(TouchTableI_fn (nth (t:=tTour) l 1) (nth (t:=tTour) l 0)).sh
     try simp (maxSteps:=9^9) only[go_sem]
     repeat refine AI ?_
     repeat refine AI ?_
     refine cw c1 ?_
     try simp (maxSteps:=9^9) only[go_sem]
     repeat refine AI ?_
     refine LoopK.mk 1 ?_ (by omega) (by omega)
     exact WK
    ·try simp (maxSteps:=9^9) only[go_sem]
     refine CondW_dec (fun hB=>?_) (fun hB=>absurd (by rw [hl]; decide) hB)
     try simp (maxSteps:=9^9) only[go_sem]
     repeat refine AI ?_
     refine LoopK.mk 2 ?_ (by omega) (by omega)
     exact WK
    ·try simp (maxSteps:=9^9) only[go_sem]
     refine CondW_dec (fun hB=>by rw [hl] at hB; exact absurd hB (by decide)) (fun hB=>?_)
     try simp (maxSteps:=9^9) only[go_sem]
     repeat refine AI ?_
     refine LoopK.mk 2 ?_ (by omega) (by omega)
     exact WK
  ·try simp (maxSteps:=9^9) only[go_sem]
   refine CondW_dec (fun hA=>by rw [hl] at hA; exact absurd hA (by decide)) (fun hA=>?_)
   try simp (maxSteps:=9^9) only[go_sem]
   all_goals repeat refine AI ?_
   all_goals first|kernel_rfl|omega|rfl
noncomputable def plT3 (l:List DT):tTabs.den:=((([],tabD (nth (t:=tTour) l 0) (nth (t:=tTour) l 1),tabD (nth (t:=tTour) l 0) (nth (t:=tTour) l 2)),(tabD (nth (t:=tTour) l 1) (nth (t:=tTour) l 0),[],tabD (nth (t:=tTour) l 1) (nth (t:=tTour) l 2)),(tabD (nth (t:=tTour) l 2) (nth (t:=tTour) l 0),tabD (nth (t:=tTour) l 2) (nth (t:=tTour) l 1),[])))
noncomputable def plD3 (l:List DT):tPlanner.den:=(l,(plT3 l,some 0))
set_option maxHeartbeats 4000000 in
theorem newPlanner_fn3 (l:List DT) (hl:l.length=3):FnNP Tryz.prog 33 [⟨.slice tTour,l⟩] tPl0 (l,plT3 l):=by
 unfold plT3
 refine fnNP_enter tabOK mixes Tryz.func33 rfl rfl _ Tryz.ntmps33 _ Tryz.results33 (by simp) fun hwf=>?_
 try simp (maxSteps:=9^9) only[go_sem]
 repeat refine AI ?_
 refine LoopG.intro _ _ _ (fun y:Nat=>match y with|0=>⟨[(0,.sl tTour l),(3,.ptr 1 0),(12,.sl tTour l),(13,.sc (.int .i64 l.length)),(14,.sc (.int .i64 0))],[(0,.ob none 0 (.map [])),(1,.box [.sl tTour l,.sl (.slice .bool) ([]),.sl (.slice .bool) ([]),.sl (.slice .bool) ([]),.sl (.slice .bool) ([]),.sl (.slice .bool) ([]),.sl (.slice .bool) ([]),.sl (.slice .bool) ([]),.sl (.slice .bool) ([]),.sl (.slice .bool) ([]),.row 0 0])]⟩|1=>⟨[(0,.sl tTour l),(3,.ptr 1 0),(12,.sl tTour l),(13,.sc (.int .i64 l.length)),(14,.sc (.int .i64 1))],[(0,.ob none 0 (.map [])),(1,.box [.sl tTour l,.sl (.slice .bool) ([]),.sl (.slice .bool) (tabD (nth (t:=tTour) l 0) (nth (t:=tTour) l 1)),.sl (.slice .bool) (tabD (nth (t:=tTour) l 0) (nth (t:=tTour) l 2)),.sl (.slice .bool) ([]),.sl (.slice .bool) ([]),.sl (.slice .bool) ([]),.sl (.slice .bool) ([]),.sl (.slice .bool) ([]),.sl (.slice .bool) ([]),.row 0 0])]⟩|2=>⟨[(0,.sl tTour l),(3,.ptr 1 0),(12,.sl tTour l),(13,.sc (.int .i64 l.length)),(14,.sc (.int .i64 2))],[(0,.ob none 0 (.map [])),(1,.box [.sl tTour l,.sl (.slice .bool) ([]),.sl (.slice .bool) (tabD (nth (t:=tTour) l 0) (nth (t:=tTour) l 1)),.sl (.slice .bool) (tabD (nth (t:=tTour) l 0) (nth (t:=tTour) l 2)),.sl (.slice .bool) (tabD (nth (t:=tTour) l 1) (nth (t:=tTour) l 0)),.sl (.slice .bool) ([]),.sl (.slice .bool) (tabD (nth (t:=tTour) l 1) (nth (t:=tTour) l 2)),.sl (.slice .bool) ([]),.sl (.slice .bool) ([]),.sl (.slice .bool) ([]),.row 0 0])]⟩|_=>⟨[(0,.sl tTour l),(3,.ptr 1 0),(12,.sl tTour l),(13,.sc (.int .i64 l.length)),(14,.sc (.int .i64 3))],[(0,.ob none 0 (.map [])),(1,.box [.sl tTour l,.sl (.slice .bool) ([]),.sl (.slice .bool) (tabD (nth (t:=tTour) l 0) (nth (t:=tTour) l 1)),.sl (.slice .bool) (tabD (nth (t:=tTour) l 0) (nth (t:=tTour) l 2)),.sl (.slice .bool) (tabD (nth (t:=tTour) l 1) (nth (t:=tTour) l 0)),.sl (.slice .bool) ([]),.sl (.slice .bool) (tabD (nth (t:=tTour) l 1) (nth (t:=tTour) l 2)),.sl (.slice .bool) (tabD (nth (t:=tTour) l 2) (nth (t:=tTour) l 0)),.sl (.slice .bool) (tabD (nth (t:=tTour) l 2) (nth (t:=tTour) l 1)),.sl (.slice .bool) ([]),.row 0 0])]⟩) (fun y=>y<=3) (fun y=>3 - y) 0 ?_ (Nat.zero_le _) ?_
 ·exact WK
 ·rintro y hy
  obtain rfl|rfl|rfl|rfl:y=0\/y=1\/y=2\/y=3:=by omega
  ·try simp (maxSteps:=9^9) only[go_sem]
   refine CondW_dec (fun hA=>?_) (fun hA=>absurd (by rw [hl]; decide) hA)
   try simp (maxSteps:=9^9) only[go_sem]
   repeat refine AI ?_
   refine LoopG.intro _ _ _ (fun z:Nat=>match z with|0=>⟨[(0,.sl tTour l),(3,.ptr 1 0),(4,.sc (.int .i64 0)),(5,.ptr 2 0),(12,.sl tTour l),(13,.sc (.int .i64 l.length)),(14,.sc (.int .i64 0)),(19,.sl tTour l),(20,.sc (.int .i64 l.length)),(21,.sc (.int .i64 0))],[(0,.ob none 0 (.map [])),(1,.box [.sl tTour l,.sl (.slice .bool) ([]),.sl (.slice .bool) ([]),.sl (.slice .bool) ([]),.sl (.slice .bool) ([]),.sl (.slice .bool) ([]),.sl (.slice .bool) ([]),.sl (.slice .bool) ([]),.sl (.slice .bool) ([]),.sl (.slice .bool) ([]),.row 0 0]),(2,.box (cel tTour (nth (t:=tTour) l 0)))]⟩|1=>⟨[(0,.sl tTour l),(3,.ptr 1 0),(4,.sc (.int .i64 0)),(5,.ptr 2 0),(12,.sl tTour l),(13,.sc (.int .i64 l.length)),(14,.sc (.int .i64 0)),(19,.sl tTour l),(20,.sc (.int .i64 l.length)),(21,.sc (.int .i64 1))],[(0,.ob none 0 (.map [])),(1,.box [.sl tTour l,.sl (.slice .bool) ([]),.sl (.slice .bool) ([]),.sl (.slice .bool) ([]),.sl (.slice .bool) ([]),.sl (.slice .bool) ([]),.sl (.slice .bool) ([]),.sl (.slice .bool) ([]),.sl (.slice .bool) ([]),.sl (.slice .bool) ([]),.row 0 0]),(2,.box (cel tTour (nth (t:=tTour) l 0)))]⟩|2=>⟨[(0,.sl tTour l),(3,.ptr 1 0),(4,.sc (.int .i64 0)),(5,.ptr 2 0),(12,.sl tTour l),(13,.sc (.int .i64 l.length)),(14,.sc (.int .i64 0)),(19,.sl tTour l),(20,.sc (.int .i64 l.length)),(21,.sc (.int .i64 2))],[(0,.ob none 0 (.map [])),(1,.box [.sl tTour l,.sl (.slice .bool) ([]),.sl (.slice .bool) (tabD (nth (t:=tTour) l 0) (nth (t:=tTour) l 1)),.sl (.slice .bool) ([]),.sl (.slice .bool) ([]),.sl (.slice .bool) ([]),.sl (.slice .bool) ([]),.sl (.slice .bool) ([]),.sl (.slice .bool) ([]),.sl (.slice .bool) ([]),.row 0 0]),(2,.box (cel tTour (nth (t:=tTour) l 0)))]⟩|_=>⟨[(0,.sl tTour l),(3,.ptr 1 0),(4,.sc (.int .i64 0)),(5,.ptr 2 0),(12,.sl tTour l),(13,.sc (.int .i64 l.length)),(14,.sc (.int .i64 0)),(19,.sl tTour l),(20,.sc (.int .i64 l.length)),(21,.sc (.int .i64 3))],[(0,.ob none 0 (.map [])),(1,.box [.sl tTour l,.sl (.slice .bool) ([]),.sl (.slice .bool) (tabD (nth (t:=tTour) l 0) (nth (t:=tTour) l 1)),.sl (.slice .bool) (tabD (nth (t:=tTour) l 0) (nth (t:=tTour) l 2)),.sl (.slice .bool) ([]),.sl (.slice .bool) ([]),.sl (.slice .bool) ([]),.sl (.slice .bool) ([]),.sl (.slice .bool) ([]),.sl (.slice .bool) ([]),.row 0 0]),(2,.box (cel tTour (nth (t:=tTour) l 0)))]⟩) (fun z=>z<=3) (fun z=>3 - z) 0 ?_ (Nat.zero_le _) ?_
   ·exact WK
   ·rintro z hz
    obtain rfl|rfl|rfl|rfl:z=0\/z=1\/z=2\/z=3:=by omega
    ·try simp (maxSteps:=9^9) only[go_sem]
     refine CondW_dec (fun hB=>?_) (fun hB=>absurd (by rw [hl]; decide) hB)
     try simp (maxSteps:=9^9) only[go_sem]
     repeat refine AI ?_
     refine LoopK.mk 1 ?_ (by omega) (by omega)
     exact WK
    ·try simp (maxSteps:=9^9) only[go_sem]
     refine CondW_dec (fun hB=>?_) (fun hB=>absurd (by rw [hl]; decide) hB)
     have c1:=(TouchTableI_fn (nth (t:=tTour) l 0) (nth (t:=tTour) l 1)).sh
     try simp (maxSteps:=9^9) only[go_sem]
     repeat refine AI ?_
     repeat refine AI ?_
     refine cw c1 ?_
     try simp (maxSteps:=9^9) only[go_sem]
     repeat refine AI ?_
     refine LoopK.mk 2 ?_ (by omega) (by omega)
     exact WK
    ·try simp (maxSteps:=9^9) only[go_sem]
     refine CondW_dec (fun hB=>?_) (fun hB=>absurd (by rw [hl]; decide) hB)
     have c1:=(TouchTableI_fn (nth (t:=tTour) l 0) (nth (t:=tTour) l 2)).sh
     try simp (maxSteps:=9^9) only[go_sem]
     repeat refine AI ?_
     repeat refine AI ?_
     refine cw c1 ?_
     try simp (maxSteps:=9^9) only[go_sem]
     repeat refine AI ?_
     refine LoopK.mk 3 ?_ (by omega) (by omega)
     exact WK
    ·try simp (maxSteps:=9^9) only[go_sem]
     refine CondW_dec (fun hB=>by rw [hl] at hB; exact absurd hB (by decide)) (fun hB=>?_)
     try simp (maxSteps:=9^9) only[go_sem]
     repeat refine AI ?_
     refine LoopK.mk 1 ?_ (by omega) (by omega)
     exact WK
  ·try simp (maxSteps:=9^9) only[go_sem]
   refine CondW_dec (fun hA=>?_) (fun hA=>absurd (by rw [hl]; decide) hA)
   try simp (maxSteps:=9^9) only[go_sem]
   repeat refine AI ?_
   refine LoopG.intro _ _ _ (fun z:Nat=>match z with|0=>⟨[(0,.sl tTour l),(3,.ptr 1 0),(4,.sc (.int .i64 1)),(5,.ptr 2 0),(12,.sl tTour l),(13,.sc (.int .i64 l.length)),(14,.sc (.int .i64 1)),(19,.sl tTour l),(20,.sc (.int .i64 l.length)),(21,.sc (.int .i64 0))],[(0,.ob none 0 (.map [])),(1,.box [.sl tTour l,.sl (.slice .bool) ([]),.sl (.slice .bool) (tabD (nth (t:=tTour) l 0) (nth (t:=tTour) l 1)),.sl (.slice .bool) (tabD (nth (t:=tTour) l 0) (nth (t:=tTour) l 2)),.sl (.slice .bool) ([]),.sl (.slice .bool) ([]),.sl (.slice .bool) ([]),.sl (.slice .bool) ([]),.sl (.slice .bool) ([]),.sl (.slice .bool) ([]),.row 0 0]),(2,.box (cel tTour (nth (t:=tTour) l 1)))]⟩|1=>⟨[(0,.sl tTour l),(3,.ptr 1 0),(4,.sc (.int .i64 1)),(5,.ptr 2 0),(12,.sl tTour l),(13,.sc (.int .i64 l.length)),(14,.sc (.int .i64 1)),(19,.sl tTour l),(20,.sc (.int .i64 l.length)),(21,.sc (.int .i64 1))],[(0,.ob none 0 (.map [])),(1,.box [.sl tTour l,.sl (.slice .bool) ([]),.sl (.slice .bool) (tabD (nth (t:=tTour) l 0) (nth (t:=tTour) l 1)),.sl (.slice .bool) (tabD (nth (t:=tTour) l 0) (nth (t:=tTour) l 2)),.sl (.slice .bool) (tabD (nth (t:=tTour) l 1) (nth (t:=tTour) l 0)),.sl (.slice .bool) ([]),.sl (.slice .bool) ([]),.sl (.slice .bool) ([]),.sl (.slice .bool) ([]),.sl (.slice .bool) ([]),.row 0 0]),(2,.box (cel tTour (nth (t:=tTour) l 1)))]⟩|2=>⟨[(0,.sl tTour l),(3,.ptr 1 0),(4,.sc (.int .i64 1)),(5,.ptr 2 0),(12,.sl tTour l),(13,.sc (.int .i64 l.length)),(14,.sc (.int .i64 1)),(19,.sl tTour l),(20,.sc (.int .i64 l.length)),(21,.sc (.int .i64 2))],[(0,.ob none 0 (.map [])),(1,.box [.sl tTour l,.sl (.slice .bool) ([]),.sl (.slice .bool) (tabD (nth (t:=tTour) l 0) (nth (t:=tTour) l 1)),.sl (.slice .bool) (tabD (nth (t:=tTour) l 0) (nth (t:=tTour) l 2)),.sl (.slice .bool) (tabD (nth (t:=tTour) l 1) (nth (t:=tTour) l 0)),.sl (.slice .bool) ([]),.sl (.slice .bool) ([]),.sl (.slice .bool) ([]),.sl (.slice .bool) ([]),.sl (.slice .bool) ([]),.row 0 0]),(2,.box (cel tTour (nth (t:=tTour) l 1)))]⟩|_=>⟨[(0,.sl tTour l),(3,.ptr 1 0),(4,.sc (.int .i64 1)),(5,.ptr 2 0),(12,.sl tTour l),(13,.sc (.int .i64 l.length)),(14,.sc (.int .i64 1)),(19,.sl tTour l),(20,.sc (.int .i64 l.length)),(21,.sc (.int .i64 3))],[(0,.ob none 0 (.map [])),(1,.box [.sl tTour l,.sl (.slice .bool) ([]),.sl (.slice .bool) (tabD (nth (t:=tTour) l 0) (nth (t:=tTour) l 1)),.sl (.slice .bool) (tabD (nth (t:=tTour) l 0) (nth (t:=tTour) l 2)),.sl (.slice .bool) (tabD (nth (t:=tTour) l 1) (nth (t:=tTour) l 0)),.sl (.slice .bool) ([]),.sl (.slice .bool) (tabD (nth (t:=tTour) l 1) (nth (t:=tTour) l 2)),.sl (.slice .bool) ([]),.sl (.slice .bool) ([]),.sl (.slice .bool) ([]),.row 0 0]),(2,.box (cel tTour (nth (t:=tTour) l 1)))]⟩) (fun z=>z<=3) (fun z=>3 - z) 0 ?_ (Nat.zero_le _) ?_
   ·exact WK
   ·rintro z hz
    obtain rfl|rfl|rfl|rfl:z=0\/z=1\/z=2\/z=3:=by omega
    ·try simp (maxSteps:=9^9) only[go_sem]
     refine CondW_dec (fun hB=>?_) (fun hB=>absurd (by rw [hl]; decide) hB)
     have c1:=(TouchTableI_fn (nth (t:=tTour) l 1) (nth (t:=tTour) l 0)).sh
     try simp (maxSteps:=9^9) only[go_sem]
     repeat refine AI ?_
     repeat refine AI ?_
     refine cw c1 ?_
     try simp (maxSteps:=9^9) only[go_sem]
     repeat refine AI ?_
     refine LoopK.mk 1 ?_ (by omega) (by omega)
     exact WK
    ·try simp (maxSteps:=9^9) only[go_sem]
     refine CondW_dec (fun hB=>?_) (fun hB=>absurd (by rw [hl]; decide) hB)
     try simp (maxSteps:=9^9) only[go_sem]
     repeat refine AI ?_
     refine LoopK.mk 2 ?_ (by omega) (by omega)
     exact WK
    ·try simp (maxSteps:=9^9) only[go_sem]
     refine CondW_dec (fun hB=>?_) (fun hB=>absurd (by rw [hl]; decide) hB)
     have c1:=(TouchTableI_fn (nth (t:=tTour) l 1) (nth (t:=tTour) l 2)).sh
     try simp (maxSteps:=9^9) only[go_sem]
     repeat refine AI ?_
     repeat refine AI ?_
     refine cw c1 ?_
     try simp (maxSteps:=9^9) only[go_sem]
     repeat refine AI ?_
     refine LoopK.mk 3 ?_ (by omega) (by omega)
     exact WK
    ·try simp (maxSteps:=9^9) only[go_sem]
     refine CondW_dec (fun hB=>by rw [hl] at hB; exact absurd hB (by decide)) (fun hB=>?_)
     try simp (maxSteps:=9^9) only[go_sem]
     repeat refine AI ?_
     refine LoopK.mk 2 ?_ (by omega) (by omega)
     exact WK
  ·try simp (maxSteps:=9^9) only[go_sem]
   refine CondW_dec (fun hA=>?_) (fun hA=>absurd (by rw [hl]; decide) hA)
   try simp (maxSteps:=9^9) only[go_sem]
   repeat refine AI ?_
   refine LoopG.intro _ _ _ (fun z:Nat=>match z with|0=>⟨[(0,.sl tTour l),(3,.ptr 1 0),(4,.sc (.int .i64 2)),(5,.ptr 2 0),(12,.sl tTour l),(13,.sc (.int .i64 l.length)),(14,.sc (.int .i64 2)),(19,.sl tTour l),(20,.sc (.int .i64 l.length)),(21,.sc (.int .i64 0))],[(0,.ob none 0 (.map [])),(1,.box [.sl tTour l,.sl (.slice .bool) ([]),.sl (.slice .bool) (tabD (nth (t:=tTour) l 0) (nth (t:=tTour) l 1)),.sl (.slice .bool) (tabD (nth (t:=tTour) l 0) (nth (t:=tTour) l 2)),.sl (.slice .bool) (tabD (nth (t:=tTour) l 1) (nth (t:=tTour) l 0)),.sl (.slice .bool) ([]),.sl (.slice .bool) (tabD (nth (t:=tTour) l 1) (nth (t:=tTour) l 2)),.sl (.slice .bool) ([]),.sl (.slice .bool) ([]),.sl (.slice .bool) ([]),.row 0 0]),(2,.box (cel tTour (nth (t:=tTour) l 2)))]⟩|1=>⟨[(0,.sl tTour l),(3,.ptr 1 0),(4,.sc (.int .i64 2)),(5,.ptr 2 0),(12,.sl tTour l),(13,.sc (.int .i64 l.length)),(14,.sc (.int .i64 2)),(19,.sl tTour l),(20,.sc (.int .i64 l.length)),(21,.sc (.int .i64 1))],[(0,.ob none 0 (.map [])),(1,.box [.sl tTour l,.sl (.slice .bool) ([]),.sl (.slice .bool) (tabD (nth (t:=tTour) l 0) (nth (t:=tTour) l 1)),.sl (.slice .bool) (tabD (nth (t:=tTour) l 0) (nth (t:=tTour) l 2)),.sl (.slice .bool) (tabD (nth (t:=tTour) l 1) (nth (t:=tTour) l 0)),.sl (.slice .bool) ([]),.sl (.slice .bool) (tabD (nth (t:=tTour) l 1) (nth (t:=tTour) l 2)),.sl (.slice .bool) (tabD (nth (t:=tTour) l 2) (nth (t:=tTour) l 0)),.sl (.slice .bool) ([]),.sl (.slice .bool) ([]),.row 0 0]),(2,.box (cel tTour (nth (t:=tTour) l 2)))]⟩|2=>⟨[(0,.sl tTour l),(3,.ptr 1 0),(4,.sc (.int .i64 2)),(5,.ptr 2 0),(12,.sl tTour l),(13,.sc (.int .i64 l.length)),(14,.sc (.int .i64 2)),(19,.sl tTour l),(20,.sc (.int .i64 l.length)),(21,.sc (.int .i64 2))],[(0,.ob none 0 (.map [])),(1,.box [.sl tTour l,.sl (.slice .bool) ([]),.sl (.slice .bool) (tabD (nth (t:=tTour) l 0) (nth (t:=tTour) l 1)),.sl (.slice .bool) (tabD (nth (t:=tTour) l 0) (nth (t:=tTour) l 2)),.sl (.slice .bool) (tabD (nth (t:=tTour) l 1) (nth (t:=tTour) l 0)),.sl (.slice .bool) ([]),.sl (.slice .bool) (tabD (nth (t:=tTour) l 1) (nth (t:=tTour) l 2)),.sl (.slice .bool) (tabD (nth (t:=tTour) l 2) (nth (t:=tTour) l 0)),.sl (.slice .bool) (tabD (nth (t:=tTour) l 2) (nth (t:=tTour) l 1)),.sl (.slice .bool) ([]),.row 0 0]),(2,.box (cel tTour (nth (t:=tTour) l 2)))]⟩|_=>⟨[(0,.sl tTour l),(3,.ptr 1 0),(4,.sc (.int .i64 2)),(5,.ptr 2 0),(12,.sl tTour l),(13,.sc (.int .i64 l.length)),(14,.sc (.int .i64 2)),(19,.sl tTour l),(20,.sc (.int .i64 l.length)),(21,.sc (.int .i64 3))],[(0,.ob none 0 (.map [])),(1,.box [.sl tTour l,.sl (.slice .bool) ([]),.sl (.slice .bool) (tabD (nth (t:=tTour) l 0) (nth (t:=tTour) l 1)),.sl (.slice .bool) (tabD (nth (t:=tTour) l 0) (nth (t:=tTour) l 2)),.sl (.slice .bool) (tabD (nth (t:=tTour) l 1) (nth (t:=tTour) l 0)),.sl (.slice .bool) ([]),.sl (.slice .bool) (tabD (nth (t:=tTour) l 1) (nth (t:=tTour) l 2)),.sl (.slice .bool) (tabD (nth (t:=tTour) l 2) (nth (t:=tTour) l 0)),.sl (.slice .bool) (tabD (nth (t:=tTour) l 2) (nth (t:=tTour) l 1)),.sl (.slice .bool) ([]),.row 0 0]),(2,.box (cel tTour (nth (t:=tTour) l 2)))]⟩) (fun z=>z<=3) (fun z=>3 - z) 0 ?_ (Nat.zero_le _) ?_
   ·exact WK
   ·rintro z hz
    obtain rfl|rfl|rfl|rfl:z=0\/z=1\/z=2\/z=3:=by omega
    ·try simp (maxSteps:=9^9) only[go_sem]
     refine CondW_dec (fun hB=>?_) (fun hB=>absurd (by rw [hl]; decide) hB)
     have c1:=(TouchTableI_fn (nth (t:=tTour) l 2) (nth (t:=tTour) l 0)).sh
     try simp (maxSteps:=9^9) only[go_sem]
     repeat refine AI ?_
     repeat refine AI ?_
     refine cw c1 ?_
     try simp (maxSteps:=9^9) only[go_sem]
     repeat refine AI ?_
     refine LoopK.mk 1 ?_ (by omega) (by omega)
     exact WK
    ·try simp (maxSteps:=9^9) only[go_sem]
     refine CondW_dec (fun hB=>?_) (fun hB=>absurd (by rw [hl]; decide) hB)
     have c1:=(TouchTableI_fn (nth (t:=tTour) l 2) (nth (t:=tTour) l 1)).sh
     try simp (maxSteps:=9^9) only[go_sem]
     repeat refine AI ?_
     repeat refine AI ?_
     refine cw c1 ?_
     try simp (maxSteps:=9^9) only[go_sem]
     repeat refine AI ?_
     refine LoopK.mk 2 ?_ (by omega) (by omega)
     exact WK
    ·try simp (maxSteps:=9^9) only[go_sem]
     refine CondW_dec (fun hB=>?_) (fun hB=>absurd (by rw [hl]; decide) hB)
     try simp (maxSteps:=9^9) only[go_sem]
     repeat refine AI ?_
     refine LoopK.mk 3 ?_ (by omega) (by omega)
     exact WK
    ·try simp (maxSteps:=9^9) only[go_sem]
     refine CondW_dec (fun hB=>by rw [hl] at hB; exact absurd hB (by decide)) (fun hB=>?_)
     try simp (maxSteps:=9^9) only[go_sem]
     repeat refine AI ?_
     refine LoopK.mk 3 ?_ (by omega) (by omega)
     exact WK
  ·try simp (maxSteps:=9^9) only[go_sem]
   refine CondW_dec (fun hA=>by rw [hl] at hA; exact absurd hA (by decide)) (fun hA=>?_)
   try simp (maxSteps:=9^9) only[go_sem]
   all_goals repeat refine AI ?_
   all_goals first|kernel_rfl|omega|rfl
theorem tab_len {a b:DT} (ha:tourB a=true) (hb:tourB b=true):(tabD a b).length=a.2.2.length:=by
 rw [show tabD a b=tabTo a b a.2.2.length from if_pos (by rw [ha,hb]; rfl),tabTo_len]
theorem tab_nth {a b:DT} (ha:tourB a=true) (hb:tourB b=true) {i:Int} (h0:0<=i) (h1:i < a.2.2.length):nth (t:=.slice .bool) (tabD a b) i.toNat=tabRow a b i.toNat (b.2.2.length+1):=by
 have e:tabD a b=tabTo a b a.2.2.length:=if_pos (by rw [ha,hb]; rfl)
 rw [e,nth_lt (by rw [tabTo_len]; omega)]
 unfold tabTo
 rw [List.getElem_map,List.getElem_range]
theorem tab_nlen {a b:DT} (ha:tourB a=true) (hb:tourB b=true) {i:Int} (h0:0<=i) (h1:i < a.2.2.length):(nth (t:=.slice .bool) (tabD a b) i.toNat).length=b.2.2.length+1:=by
 rw [tab_nth ha hb h0 h1,tabRow_len]
theorem tab_get {a b:DT} (ha:tourB a=true) (hb:tourB b=true) {i j:Int} (h0:0<=i) (h1:i < a.2.2.length) (h2:0<=j) (h3:j<=b.2.2.length):nth (t:=.bool) (nth (t:=.slice .bool) (tabD a b) i.toNat) j.toNat=stpTB a i b j:=by
 rw [tab_nth ha hb h0 h1,nth_lt (by rw [tabRow_len]; omega)]
 unfold tabRow
 rw [List.getElem_map,List.getElem_range,show ((i.toNat:Nat):Int)=i by omega,show ((j.toNat:Nat):Int)=j by omega]
@[go_sem] theorem plD1_l (l:List DT):(plD1 l).1=l:=(rfl)
@[go_sem] theorem plD1_00 (l:List DT):(plD1 l).2.1.1.1=[]:=(rfl)
@[go_sem] theorem plD1_01 (l:List DT):(plD1 l).2.1.1.2.1=[]:=(rfl)
@[go_sem] theorem plD1_02 (l:List DT):(plD1 l).2.1.1.2.2=[]:=(rfl)
@[go_sem] theorem plD1_10 (l:List DT):(plD1 l).2.1.2.1.1=[]:=(rfl)
@[go_sem] theorem plD1_11 (l:List DT):(plD1 l).2.1.2.1.2.1=[]:=(rfl)
@[go_sem] theorem plD1_12 (l:List DT):(plD1 l).2.1.2.1.2.2=[]:=(rfl)
@[go_sem] theorem plD1_20 (l:List DT):(plD1 l).2.1.2.2.1=[]:=(rfl)
@[go_sem] theorem plD1_21 (l:List DT):(plD1 l).2.1.2.2.2.1=[]:=(rfl)
@[go_sem] theorem plD1_22 (l:List DT):(plD1 l).2.1.2.2.2.2=[]:=(rfl)
@[go_sem] theorem plD2_l (l:List DT):(plD2 l).1=l:=(rfl)
@[go_sem] theorem plD2_00 (l:List DT):(plD2 l).2.1.1.1=[]:=(rfl)
@[go_sem] theorem plD2_01 (l:List DT):(plD2 l).2.1.1.2.1=tabD (nth (t:=tTour) l 0) (nth (t:=tTour) l 1):=(rfl)
@[go_sem] theorem plD2_02 (l:List DT):(plD2 l).2.1.1.2.2=[]:=(rfl)
@[go_sem] theorem plD2_10 (l:List DT):(plD2 l).2.1.2.1.1=tabD (nth (t:=tTour) l 1) (nth (t:=tTour) l 0):=(rfl)
@[go_sem] theorem plD2_11 (l:List DT):(plD2 l).2.1.2.1.2.1=[]:=(rfl)
@[go_sem] theorem plD2_12 (l:List DT):(plD2 l).2.1.2.1.2.2=[]:=(rfl)
@[go_sem] theorem plD2_20 (l:List DT):(plD2 l).2.1.2.2.1=[]:=(rfl)
@[go_sem] theorem plD2_21 (l:List DT):(plD2 l).2.1.2.2.2.1=[]:=(rfl)
@[go_sem] theorem plD2_22 (l:List DT):(plD2 l).2.1.2.2.2.2=[]:=(rfl)
@[go_sem] theorem plD3_l (l:List DT):(plD3 l).1=l:=(rfl)
@[go_sem] theorem plD3_00 (l:List DT):(plD3 l).2.1.1.1=[]:=(rfl)
@[go_sem] theorem plD3_01 (l:List DT):(plD3 l).2.1.1.2.1=tabD (nth (t:=tTour) l 0) (nth (t:=tTour) l 1):=(rfl)
@[go_sem] theorem plD3_02 (l:List DT):(plD3 l).2.1.1.2.2=tabD (nth (t:=tTour) l 0) (nth (t:=tTour) l 2):=(rfl)
@[go_sem] theorem plD3_10 (l:List DT):(plD3 l).2.1.2.1.1=tabD (nth (t:=tTour) l 1) (nth (t:=tTour) l 0):=(rfl)
@[go_sem] theorem plD3_11 (l:List DT):(plD3 l).2.1.2.1.2.1=[]:=(rfl)
@[go_sem] theorem plD3_12 (l:List DT):(plD3 l).2.1.2.1.2.2=tabD (nth (t:=tTour) l 1) (nth (t:=tTour) l 2):=(rfl)
@[go_sem] theorem plD3_20 (l:List DT):(plD3 l).2.1.2.2.1=tabD (nth (t:=tTour) l 2) (nth (t:=tTour) l 0):=(rfl)
@[go_sem] theorem plD3_21 (l:List DT):(plD3 l).2.1.2.2.2.1=tabD (nth (t:=tTour) l 2) (nth (t:=tTour) l 1):=(rfl)
@[go_sem] theorem plD3_22 (l:List DT):(plD3 l).2.1.2.2.2.2=[]:=(rfl)
set_option maxHeartbeats 4000000 in
theorem stateOf_fn1 (l:List DT) (hl:l.length=1) (st:List Int) (hst:stP l st):Fn Tryz.prog 43 [⟨.ext .ref tPlanner,some (plD1 l)⟩,⟨tInts,st⟩] false [⟨tState,(ni st 0,(0:Int),(0:Int))⟩,⟨.bool,true⟩]:=by
 have h0:(st.length:Int)=l.length:=by rw [hst.1]
 have h0':=hst.1
 have d0:=decide_eq_true h0
 have v0:=hst.2 0 (by rw [hst.1,hl]; decide)
 unfold stAt at v0
 refine fe Tryz.func43 Tryz.ntmps43 Tryz.results43 fun hwf=>?_
 try simp (maxSteps:=9^9) only[go_sem]
 repeat refine AI ?_
 try simp (maxSteps:=9^9) only[go_sem,d0]
 repeat refine AI ?_
 refine LoopG.intro _ _ _ (fun y:Nat=>match y with|0=>⟨[(0,.ref tPlanner (plD1 l) 0),(1,.sl .int st),(4,.ptr 0 0),(5,.sc (.bool false)),(6,.ptr 1 0),(19,.sl .int st),(20,.sc (.int .i64 st.length)),(21,.sc (.int .i64 0))],[(0,.box [.sc (.int .i64 0),.sc (.int .i64 0),.sc (.int .i64 0)]),(1,.box [.sc (.int .i64 0),.sc (.int .i64 0),.sc (.int .i64 0)])]⟩|_=>⟨[(0,.ref tPlanner (plD1 l) 0),(1,.sl .int st),(4,.ptr 0 0),(5,.sc (.bool false)),(6,.ptr 1 0),(19,.sl .int st),(20,.sc (.int .i64 st.length)),(21,.sc (.int .i64 1))],[(0,.box [.sc (.int .i64 0),.sc (.int .i64 0),.sc (.int .i64 0)]),(1,.box [.sc (.int .i64 (ni st 0)),.sc (.int .i64 0),.sc (.int .i64 0)])]⟩) (fun y=>y<=1) (fun y=>1 - y) 0 ?_ (Nat.zero_le _) ?_
 ·exact WK
 ·rintro y hy
  obtain rfl|rfl:y=0\/y=1:=by omega
  ·try simp (maxSteps:=9^9) only[go_sem]
   refine CondW_dec (fun hA=>?_) (fun hA=>absurd (by rw [h0',hl]; decide) hA)
   have c1:=within_fn (ni st 0) 0 (nth (t:=tTour) l 0).2.2.length
   rw [decide_eq_true v0] at c1
   try simp (maxSteps:=9^9) only[go_sem]
   repeat refine AI ?_
   repeat refine AI ?_
   refine cw c1 ?_
   try simp (maxSteps:=9^9) only[go_sem]
   repeat refine AI ?_
   refine LoopK.mk 1 ?_ (by omega) (by omega)
   exact WK
  ·try simp (maxSteps:=9^9) only[go_sem]
   refine CondW_dec (fun hA=>by rw [h0',hl] at hA; exact absurd hA (by decide)) (fun hA=>?_)
   try simp (maxSteps:=9^9) only[go_sem]
   all_goals repeat refine AI ?_
   all_goals first|kernel_rfl|omega|rfl
set_option maxHeartbeats 4000000 in
theorem stateOf_bad1 (l:List DT) (hl:l.length=1) (st:List Int) (hst:¬ stP l st):∃ s:Int × Int × Int,Fn Tryz.prog 43 [⟨.ext .ref tPlanner,some (plD1 l)⟩,⟨tInts,st⟩] false [⟨tState,s⟩,⟨.bool,false⟩]:=by
 by_cases h0:(st.length:Int)=l.length
 ·have h0':st.length=l.length:=by omega
  have d0:=decide_eq_true h0
  by_cases v0:0<=ni st 0/\ni st 0<=(nth (t:=tTour) l 0).2.2.length
  rotate_left
  ·refine ⟨((0:Int),(0:Int),(0:Int)),?_⟩
   refine fe Tryz.func43 Tryz.ntmps43 Tryz.results43 fun hwf=>?_
   try simp (maxSteps:=9^9) only[go_sem]
   repeat refine AI ?_
   try simp (maxSteps:=9^9) only[go_sem,d0]
   repeat refine AI ?_
   refine LoopG.intro _ _ _ (fun _:Nat=>⟨[(0,.ref tPlanner (plD1 l) 0),(1,.sl .int st),(4,.ptr 0 0),(5,.sc (.bool false)),(6,.ptr 1 0),(19,.sl .int st),(20,.sc (.int .i64 st.length)),(21,.sc (.int .i64 0))],[(0,.box [.sc (.int .i64 0),.sc (.int .i64 0),.sc (.int .i64 0)]),(1,.box [.sc (.int .i64 0),.sc (.int .i64 0),.sc (.int .i64 0)])]⟩) (fun y=>y<=0) (fun y=>0 - y) 0 ?_ (Nat.zero_le _) ?_
   ·exact WK
   ·rintro y hy
    obtain rfl:y=0:=by omega
    ·try simp (maxSteps:=9^9) only[go_sem]
     refine CondW_dec (fun hA=>?_) (fun hA=>absurd (by rw [h0',hl]; decide) hA)
     have c1:=within_fn (ni st 0) 0 (nth (t:=tTour) l 0).2.2.length
     rw [decide_eq_false v0] at c1
     try simp (maxSteps:=9^9) only[go_sem]
     repeat refine AI ?_
     repeat refine AI ?_
     refine cw c1 ?_
     try simp (maxSteps:=9^9) only[go_sem]
     all_goals repeat refine AI ?_
     all_goals first|kernel_rfl|omega|rfl
  exact absurd ⟨h0',fun i hi=>by
   rw [h0',hl] at hi
   obtain rfl:i=0:=by omega
   ·exact v0⟩ hst
 ·have d0:=decide_eq_false h0
  refine ⟨((0:Int),(0:Int),(0:Int)),?_⟩
  refine fe Tryz.func43 Tryz.ntmps43 Tryz.results43 fun hwf=>?_
  try simp (maxSteps:=9^9) only[go_sem]
  repeat refine AI ?_
  try simp (maxSteps:=9^9) only[go_sem,d0]
  all_goals repeat refine AI ?_
  all_goals first|kernel_rfl|omega|rfl
set_option maxHeartbeats 4000000 in
theorem advance_fn10 (l:List DT) (hl:l.length=1) (st:List Int) (har:arP l) (hst:stP l st):Fn Tryz.prog 37 [⟨.ext .ref tPlanner,some (plD1 l)⟩,⟨tState,(ni st 0,(0:Int),(0:Int))⟩,⟨.int,0⟩] false [⟨tState,bif bdec (frP l st 0) then (ni st 0+1,(0:Int),(0:Int)) else (ni st 0,(0:Int),(0:Int))⟩,⟨.bool,bdec (frP l st 0)⟩]:=by
 have hr0:=(har 0 (by rw [hl]; decide)).1
 have v0:=hst.2 0 (by rw [hst.1,hl]; decide)
 unfold stAt at v0
 have hs8:=(tour_parts hr0).2.2.2.1
 by_cases h0:ni st 0=(nth (t:=tTour) l 0).2.2.length
 ·have d0:=decide_eq_true h0
  rw [bdec_f fun h=>h.1 h0,cond_false]
  refine fe Tryz.func37 Tryz.ntmps37 Tryz.results37 fun hwf=>?_
  try simp (maxSteps:=9^9) only[go_sem]
  repeat refine AI ?_
  try simp (maxSteps:=9^9) only[go_sem,d0]
  all_goals repeat refine AI ?_
  all_goals first|kernel_rfl|omega|rfl
 ·have d0:=decide_eq_false h0
  refine fe Tryz.func37 Tryz.ntmps37 Tryz.results37 fun hwf=>?_
  try simp (maxSteps:=9^9) only[go_sem]
  repeat refine AI ?_
  try simp (maxSteps:=9^9) only[go_sem,d0]
  repeat refine AI ?_
  refine LoopG.intro _ _ _ (fun y:Nat=>match y with|0=>⟨[(0,.ref tPlanner (plD1 l) 0),(2,.sc (.int .i64 0)),(4,.ptr 0 0),(6,.ptr 1 0),(7,.sc (.bool false)),(27,.sc (.int .i64 l.length)),(28,.sc (.int .i64 0))],[(0,.box [.sc (.int .i64 (ni st 0)),.sc (.int .i64 0),.sc (.int .i64 0)]),(1,.box [.sc (.int .i64 0),.sc (.int .i64 0),.sc (.int .i64 0)])]⟩|_=>⟨[(0,.ref tPlanner (plD1 l) 0),(2,.sc (.int .i64 0)),(4,.ptr 0 0),(6,.ptr 1 0),(7,.sc (.bool false)),(27,.sc (.int .i64 l.length)),(28,.sc (.int .i64 1))],[(0,.box [.sc (.int .i64 (ni st 0)),.sc (.int .i64 0),.sc (.int .i64 0)]),(1,.box [.sc (.int .i64 0),.sc (.int .i64 0),.sc (.int .i64 0)])]⟩) (fun y=>y<=1/\∀ i,i < y->frAt l st 0 i) (fun y=>1 - y) 0 ?_ ⟨Nat.zero_le _,fun i h=>absurd h (Nat.not_lt_zero _)⟩ ?_
  ·exact WK
  ·rintro y ⟨hy,hall⟩
   obtain rfl|rfl:y=0\/y=1:=by omega
   ·try simp (maxSteps:=9^9) only[go_sem]
    refine CondW_dec (fun hA=>?_) (fun hA=>absurd (by rw [hl]; decide) hA)
    try simp (maxSteps:=9^9) only[go_sem]
    repeat refine AI ?_
    refine LoopK.mk 1 ?_ ⟨by omega,fun i hi=>?_⟩ (by omega)
    ·exact WK
    ·by_cases h:i < 0
     ·exact hall i h
     ·intro hne; omega
   ·try simp (maxSteps:=9^9) only[go_sem]
    refine CondW_dec (fun hA=>by rw [hl] at hA; exact absurd hA (by decide)) (fun hA=>?_)
    rw [bdec_t ⟨h0,fun j hj=>hall j (by omega)⟩,cond_true]
    try simp (maxSteps:=9^9) only[go_sem]
    repeat refine AI ?_
    try simp (maxSteps:=9^9) only[go_sem]
    all_goals repeat refine AI ?_
    all_goals first|kernel_rfl|omega|rfl
set_option maxHeartbeats 4000000 in
theorem stateOf_fn2 (l:List DT) (hl:l.length=2) (st:List Int) (hst:stP l st):Fn Tryz.prog 43 [⟨.ext .ref tPlanner,some (plD2 l)⟩,⟨tInts,st⟩] false [⟨tState,(ni st 0,ni st 1,(0:Int))⟩,⟨.bool,true⟩]:=by
 have h0:(st.length:Int)=l.length:=by rw [hst.1]
 have h0':=hst.1
 have d0:=decide_eq_true h0
 have v0:=hst.2 0 (by rw [hst.1,hl]; decide)
 unfold stAt at v0
 have v1:=hst.2 1 (by rw [hst.1,hl]; decide)
 unfold stAt at v1
 refine fe Tryz.func43 Tryz.ntmps43 Tryz.results43 fun hwf=>?_
 try simp (maxSteps:=9^9) only[go_sem]
 repeat refine AI ?_
 try simp (maxSteps:=9^9) only[go_sem,d0]
 repeat refine AI ?_
 refine LoopG.intro _ _ _ (fun y:Nat=>match y with|0=>⟨[(0,.ref tPlanner (plD2 l) 0),(1,.sl .int st),(4,.ptr 0 0),(5,.sc (.bool false)),(6,.ptr 1 0),(19,.sl .int st),(20,.sc (.int .i64 st.length)),(21,.sc (.int .i64 0))],[(0,.box [.sc (.int .i64 0),.sc (.int .i64 0),.sc (.int .i64 0)]),(1,.box [.sc (.int .i64 0),.sc (.int .i64 0),.sc (.int .i64 0)])]⟩|1=>⟨[(0,.ref tPlanner (plD2 l) 0),(1,.sl .int st),(4,.ptr 0 0),(5,.sc (.bool false)),(6,.ptr 1 0),(19,.sl .int st),(20,.sc (.int .i64 st.length)),(21,.sc (.int .i64 1))],[(0,.box [.sc (.int .i64 0),.sc (.int .i64 0),.sc (.int .i64 0)]),(1,.box [.sc (.int .i64 (ni st 0)),.sc (.int .i64 0),.sc (.int .i64 0)])]⟩|_=>⟨[(0,.ref tPlanner (plD2 l) 0),(1,.sl .int st),(4,.ptr 0 0),(5,.sc (.bool false)),(6,.ptr 1 0),(19,.sl .int st),(20,.sc (.int .i64 st.length)),(21,.sc (.int .i64 2))],[(0,.box [.sc (.int .i64 0),.sc (.int .i64 0),.sc (.int .i64 0)]),(1,.box [.sc (.int .i64 (ni st 0)),.sc (.int .i64 (ni st 1)),.sc (.int .i64 0)])]⟩) (fun y=>y<=2) (fun y=>2 - y) 0 ?_ (Nat.zero_le _) ?_
 ·exact WK
 ·rintro y hy
  obtain rfl|rfl|rfl:y=0\/y=1\/y=2:=by omega
  ·try simp (maxSteps:=9^9) only[go_sem]
   refine CondW_dec (fun hA=>?_) (fun hA=>absurd (by rw [h0',hl]; decide) hA)
   have c1:=within_fn (ni st 0) 0 (nth (t:=tTour) l 0).2.2.length
   rw [decide_eq_true v0] at c1
   try simp (maxSteps:=9^9) only[go_sem]
   repeat refine AI ?_
   repeat refine AI ?_
   refine cw c1 ?_
   try simp (maxSteps:=9^9) only[go_sem]
   repeat refine AI ?_
   refine LoopK.mk 1 ?_ (by omega) (by omega)
   exact WK
  ·try simp (maxSteps:=9^9) only[go_sem]
   refine CondW_dec (fun hA=>?_) (fun hA=>absurd (by rw [h0',hl]; decide) hA)
   have c1:=within_fn (ni st 1) 0 (nth (t:=tTour) l 1).2.2.length
   rw [decide_eq_true v1] at c1
   try simp (maxSteps:=9^9) only[go_sem]
   repeat refine AI ?_
   repeat refine AI ?_
   refine cw c1 ?_
   try simp (maxSteps:=9^9) only[go_sem]
   repeat refine AI ?_
   refine LoopK.mk 2 ?_ (by omega) (by omega)
   exact WK
  ·try simp (maxSteps:=9^9) only[go_sem]
   refine CondW_dec (fun hA=>by rw [h0',hl] at hA; exact absurd hA (by decide)) (fun hA=>?_)
   try simp (maxSteps:=9^9) only[go_sem]
   all_goals repeat refine AI ?_
   all_goals first|kernel_rfl|omega|rfl
set_option maxHeartbeats 4000000 in
theorem stateOf_bad2 (l:List DT) (hl:l.length=2) (st:List Int) (hst:¬ stP l st):∃ s:Int × Int × Int,Fn Tryz.prog 43 [⟨.ext .ref tPlanner,some (plD2 l)⟩,⟨tInts,st⟩] false [⟨tState,s⟩,⟨.bool,false⟩]:=by
 by_cases h0:(st.length:Int)=l.length
 ·have h0':st.length=l.length:=by omega
  have d0:=decide_eq_true h0
  by_cases v0:0<=ni st 0/\ni st 0<=(nth (t:=tTour) l 0).2.2.length
  rotate_left
  ·refine ⟨((0:Int),(0:Int),(0:Int)),?_⟩
   refine fe Tryz.func43 Tryz.ntmps43 Tryz.results43 fun hwf=>?_
   try simp (maxSteps:=9^9) only[go_sem]
   repeat refine AI ?_
   try simp (maxSteps:=9^9) only[go_sem,d0]
   repeat refine AI ?_
   refine LoopG.intro _ _ _ (fun _:Nat=>⟨[(0,.ref tPlanner (plD2 l) 0),(1,.sl .int st),(4,.ptr 0 0),(5,.sc (.bool false)),(6,.ptr 1 0),(19,.sl .int st),(20,.sc (.int .i64 st.length)),(21,.sc (.int .i64 0))],[(0,.box [.sc (.int .i64 0),.sc (.int .i64 0),.sc (.int .i64 0)]),(1,.box [.sc (.int .i64 0),.sc (.int .i64 0),.sc (.int .i64 0)])]⟩) (fun y=>y<=0) (fun y=>0 - y) 0 ?_ (Nat.zero_le _) ?_
   ·exact WK
   ·rintro y hy
    obtain rfl:y=0:=by omega
    ·try simp (maxSteps:=9^9) only[go_sem]
     refine CondW_dec (fun hA=>?_) (fun hA=>absurd (by rw [h0',hl]; decide) hA)
     have c1:=within_fn (ni st 0) 0 (nth (t:=tTour) l 0).2.2.length
     rw [decide_eq_false v0] at c1
     try simp (maxSteps:=9^9) only[go_sem]
     repeat refine AI ?_
     repeat refine AI ?_
     refine cw c1 ?_
     try simp (maxSteps:=9^9) only[go_sem]
     all_goals repeat refine AI ?_
     all_goals first|kernel_rfl|omega|rfl
  by_cases v1:0<=ni st 1/\ni st 1<=(nth (t:=tTour) l 1).2.2.length
  rotate_left
  ·refine ⟨(ni st 0,(0:Int),(0:Int)),?_⟩
   refine fe Tryz.func43 Tryz.ntmps43 Tryz.results43 fun hwf=>?_
   try simp (maxSteps:=9^9) only[go_sem]
   repeat refine AI ?_
   try simp (maxSteps:=9^9) only[go_sem,d0]
   repeat refine AI ?_
   refine LoopG.intro _ _ _ (fun y:Nat=>match y with|0=>⟨[(0,.ref tPlanner (plD2 l) 0),(1,.sl .int st),(4,.ptr 0 0),(5,.sc (.bool false)),(6,.ptr 1 0),(19,.sl .int st),(20,.sc (.int .i64 st.length)),(21,.sc (.int .i64 0))],[(0,.box [.sc (.int .i64 0),.sc (.int .i64 0),.sc (.int .i64 0)]),(1,.box [.sc (.int .i64 0),.sc (.int .i64 0),.sc (.int .i64 0)])]⟩|_=>⟨[(0,.ref tPlanner (plD2 l) 0),(1,.sl .int st),(4,.ptr 0 0),(5,.sc (.bool false)),(6,.ptr 1 0),(19,.sl .int st),(20,.sc (.int .i64 st.length)),(21,.sc (.int .i64 1))],[(0,.box [.sc (.int .i64 0),.sc (.int .i64 0),.sc (.int .i64 0)]),(1,.box [.sc (.int .i64 (ni st 0)),.sc (.int .i64 0),.sc (.int .i64 0)])]⟩) (fun y=>y<=1) (fun y=>1 - y) 0 ?_ (Nat.zero_le _) ?_
   ·exact WK
   ·rintro y hy
    obtain rfl|rfl:y=0\/y=1:=by omega
    ·try simp (maxSteps:=9^9) only[go_sem]
     refine CondW_dec (fun hA=>?_) (fun hA=>absurd (by rw [h0',hl]; decide) hA)
     have c1:=within_fn (ni st 0) 0 (nth (t:=tTour) l 0).2.2.length
     rw [decide_eq_true v0] at c1
     try simp (maxSteps:=9^9) only[go_sem]
     repeat refine AI ?_
     repeat refine AI ?_
     refine cw c1 ?_
     try simp (maxSteps:=9^9) only[go_sem]
     repeat refine AI ?_
     refine LoopK.mk 1 ?_ (by omega) (by omega)
     exact WK
    ·try simp (maxSteps:=9^9) only[go_sem]
     refine CondW_dec (fun hA=>?_) (fun hA=>absurd (by rw [h0',hl]; decide) hA)
     have c1:=within_fn (ni st 1) 0 (nth (t:=tTour) l 1).2.2.length
     rw [decide_eq_false v1] at c1
     try simp (maxSteps:=9^9) only[go_sem]
     repeat refine AI ?_
     repeat refine AI ?_
     refine cw c1 ?_
     try simp (maxSteps:=9^9) only[go_sem]
     all_goals repeat refine AI ?_
     all_goals first|kernel_rfl|omega|rfl
  exact absurd ⟨h0',fun i hi=>by
   rw [h0',hl] at hi
   obtain rfl|rfl:i=0\/i=1:=by omega
   ·exact v0
   ·exact v1⟩ hst
 ·have d0:=decide_eq_false h0
  refine ⟨((0:Int),(0:Int),(0:Int)),?_⟩
  refine fe Tryz.func43 Tryz.ntmps43 Tryz.results43 fun hwf=>?_
  try simp (maxSteps:=9^9) only[go_sem]
  repeat refine AI ?_
  try simp (maxSteps:=9^9) only[go_sem,d0]
  all_goals repeat refine AI ?_
  all_goals first|kernel_rfl|omega|rfl
set_option maxHeartbeats 4000000 in
theorem advance_fn20 (l:List DT) (hl:l.length=2) (st:List Int) (har:arP l) (hst:stP l st):Fn Tryz.prog 37 [⟨.ext .ref tPlanner,some (plD2 l)⟩,⟨tState,(ni st 0,ni st 1,(0:Int))⟩,⟨.int,0⟩] false [⟨tState,bif bdec (frP l st 0) then (ni st 0+1,ni st 1,(0:Int)) else (ni st 0,ni st 1,(0:Int))⟩,⟨.bool,bdec (frP l st 0)⟩]:=by
 have hr0:=(har 0 (by rw [hl]; decide)).1
 have v0:=hst.2 0 (by rw [hst.1,hl]; decide)
 unfold stAt at v0
 have v1:=hst.2 1 (by rw [hst.1,hl]; decide)
 unfold stAt at v1
 have hr1:=(har 1 (by rw [hl]; decide)).1
 have hs8:=(tour_parts hr0).2.2.2.1
 by_cases h0:ni st 0=(nth (t:=tTour) l 0).2.2.length
 ·have d0:=decide_eq_true h0
  rw [bdec_f fun h=>h.1 h0,cond_false]
  refine fe Tryz.func37 Tryz.ntmps37 Tryz.results37 fun hwf=>?_
  try simp (maxSteps:=9^9) only[go_sem]
  repeat refine AI ?_
  try simp (maxSteps:=9^9) only[go_sem,d0]
  all_goals repeat refine AI ?_
  all_goals first|kernel_rfl|omega|rfl
 ·have d0:=decide_eq_false h0
  have ta1:=tab_len hr0 hr1
  have tb1:=tab_nlen hr0 hr1 v0.1 (by omega)
  have tc1:=tab_get hr0 hr1 v0.1 (by omega) v1.1 v1.2
  refine fe Tryz.func37 Tryz.ntmps37 Tryz.results37 fun hwf=>?_
  try simp (maxSteps:=9^9) only[go_sem]
  repeat refine AI ?_
  try simp (maxSteps:=9^9) only[go_sem,d0]
  repeat refine AI ?_
  refine LoopG.intro _ _ _ (fun y:Nat=>match y with|0=>⟨[(0,.ref tPlanner (plD2 l) 0),(2,.sc (.int .i64 0)),(4,.ptr 0 0),(6,.ptr 1 0),(7,.sc (.bool false)),(27,.sc (.int .i64 l.length)),(28,.sc (.int .i64 0))],[(0,.box [.sc (.int .i64 (ni st 0)),.sc (.int .i64 (ni st 1)),.sc (.int .i64 0)]),(1,.box [.sc (.int .i64 0),.sc (.int .i64 0),.sc (.int .i64 0)])]⟩|1=>⟨[(0,.ref tPlanner (plD2 l) 0),(2,.sc (.int .i64 0)),(4,.ptr 0 0),(6,.ptr 1 0),(7,.sc (.bool false)),(27,.sc (.int .i64 l.length)),(28,.sc (.int .i64 1))],[(0,.box [.sc (.int .i64 (ni st 0)),.sc (.int .i64 (ni st 1)),.sc (.int .i64 0)]),(1,.box [.sc (.int .i64 0),.sc (.int .i64 0),.sc (.int .i64 0)])]⟩|_=>⟨[(0,.ref tPlanner (plD2 l) 0),(2,.sc (.int .i64 0)),(4,.ptr 0 0),(6,.ptr 1 0),(7,.sc (.bool false)),(27,.sc (.int .i64 l.length)),(28,.sc (.int .i64 2))],[(0,.box [.sc (.int .i64 (ni st 0)),.sc (.int .i64 (ni st 1)),.sc (.int .i64 0)]),(1,.box [.sc (.int .i64 0),.sc (.int .i64 0),.sc (.int .i64 0)])]⟩) (fun y=>y<=2/\∀ i,i < y->frAt l st 0 i) (fun y=>2 - y) 0 ?_ ⟨Nat.zero_le _,fun i h=>absurd h (Nat.not_lt_zero _)⟩ ?_
  ·exact WK
  ·rintro y ⟨hy,hall⟩
   obtain rfl|rfl|rfl:y=0\/y=1\/y=2:=by omega
   ·try simp (maxSteps:=9^9) only[go_sem]
    refine CondW_dec (fun hA=>?_) (fun hA=>absurd (by rw [hl]; decide) hA)
    try simp (maxSteps:=9^9) only[go_sem]
    repeat refine AI ?_
    refine LoopK.mk 1 ?_ ⟨by omega,fun i hi=>?_⟩ (by omega)
    ·exact WK
    ·by_cases h:i < 0
     ·exact hall i h
     ·intro hne; omega
   ·try simp (maxSteps:=9^9) only[go_sem]
    refine CondW_dec (fun hA=>?_) (fun hA=>absurd (by rw [hl]; decide) hA)
    cases hs:stpTB (nth (t:=tTour) l 0) (ni st 0) (nth (t:=tTour) l 1) (ni st 1)<;>rw [hs] at tc1
    ·try simp (maxSteps:=9^9) only[go_sem,ta1,tb1]
     repeat refine AI ?_
     try simp (maxSteps:=9^9) only[go_sem,ta1,tb1,tc1]
     repeat refine AI ?_
     refine LoopK.mk 2 ?_ ⟨by omega,fun i hi=>?_⟩ (by omega)
     ·exact WK
     ·by_cases h:i < 1
      ·exact hall i h
      ·rw [show i=1 by omega]; exact fun _=>hs
    ·rw [bdec_f (fun h=>by have:=h.2 1 (by rw [hl]; decide) (by decide); rw [hs] at this; cases this),cond_false]
     try simp (maxSteps:=9^9) only[go_sem,ta1,tb1]
     repeat refine AI ?_
     try simp (maxSteps:=9^9) only[go_sem,ta1,tb1,tc1]
     all_goals repeat refine AI ?_
     all_goals first|kernel_rfl|omega|rfl
   ·try simp (maxSteps:=9^9) only[go_sem]
    refine CondW_dec (fun hA=>by rw [hl] at hA; exact absurd hA (by decide)) (fun hA=>?_)
    rw [bdec_t ⟨h0,fun j hj=>hall j (by omega)⟩,cond_true]
    try simp (maxSteps:=9^9) only[go_sem]
    repeat refine AI ?_
    try simp (maxSteps:=9^9) only[go_sem]
    all_goals repeat refine AI ?_
    all_goals first|kernel_rfl|omega|rfl
set_option maxHeartbeats 4000000 in
theorem advance_fn21 (l:List DT) (hl:l.length=2) (st:List Int) (har:arP l) (hst:stP l st):Fn Tryz.prog 37 [⟨.ext .ref tPlanner,some (plD2 l)⟩,⟨tState,(ni st 0,ni st 1,(0:Int))⟩,⟨.int,1⟩] false [⟨tState,bif bdec (frP l st 1) then (ni st 0,ni st 1+1,(0:Int)) else (ni st 0,ni st 1,(0:Int))⟩,⟨.bool,bdec (frP l st 1)⟩]:=by
 have hr1:=(har 1 (by rw [hl]; decide)).1
 have v0:=hst.2 0 (by rw [hst.1,hl]; decide)
 unfold stAt at v0
 have hr0:=(har 0 (by rw [hl]; decide)).1
 have v1:=hst.2 1 (by rw [hst.1,hl]; decide)
 unfold stAt at v1
 have hs8:=(tour_parts hr1).2.2.2.1
 by_cases h0:ni st 1=(nth (t:=tTour) l 1).2.2.length
 ·have d0:=decide_eq_true h0
  rw [bdec_f fun h=>h.1 h0,cond_false]
  refine fe Tryz.func37 Tryz.ntmps37 Tryz.results37 fun hwf=>?_
  try simp (maxSteps:=9^9) only[go_sem]
  repeat refine AI ?_
  try simp (maxSteps:=9^9) only[go_sem,d0]
  all_goals repeat refine AI ?_
  all_goals first|kernel_rfl|omega|rfl
 ·have d0:=decide_eq_false h0
  have ta0:=tab_len hr1 hr0
  have tb0:=tab_nlen hr1 hr0 v1.1 (by omega)
  have tc0:=tab_get hr1 hr0 v1.1 (by omega) v0.1 v0.2
  refine fe Tryz.func37 Tryz.ntmps37 Tryz.results37 fun hwf=>?_
  try simp (maxSteps:=9^9) only[go_sem]
  repeat refine AI ?_
  try simp (maxSteps:=9^9) only[go_sem,d0]
  repeat refine AI ?_
  refine LoopG.intro _ _ _ (fun y:Nat=>match y with|0=>⟨[(0,.ref tPlanner (plD2 l) 0),(2,.sc (.int .i64 1)),(4,.ptr 0 0),(6,.ptr 1 0),(7,.sc (.bool false)),(27,.sc (.int .i64 l.length)),(28,.sc (.int .i64 0))],[(0,.box [.sc (.int .i64 (ni st 0)),.sc (.int .i64 (ni st 1)),.sc (.int .i64 0)]),(1,.box [.sc (.int .i64 0),.sc (.int .i64 0),.sc (.int .i64 0)])]⟩|1=>⟨[(0,.ref tPlanner (plD2 l) 0),(2,.sc (.int .i64 1)),(4,.ptr 0 0),(6,.ptr 1 0),(7,.sc (.bool false)),(27,.sc (.int .i64 l.length)),(28,.sc (.int .i64 1))],[(0,.box [.sc (.int .i64 (ni st 0)),.sc (.int .i64 (ni st 1)),.sc (.int .i64 0)]),(1,.box [.sc (.int .i64 0),.sc (.int .i64 0),.sc (.int .i64 0)])]⟩|_=>⟨[(0,.ref tPlanner (plD2 l) 0),(2,.sc (.int .i64 1)),(4,.ptr 0 0),(6,.ptr 1 0),(7,.sc (.bool false)),(27,.sc (.int .i64 l.length)),(28,.sc (.int .i64 2))],[(0,.box [.sc (.int .i64 (ni st 0)),.sc (.int .i64 (ni st 1)),.sc (.int .i64 0)]),(1,.box [.sc (.int .i64 0),.sc (.int .i64 0),.sc (.int .i64 0)])]⟩) (fun y=>y<=2/\∀ i,i < y->frAt l st 1 i) (fun y=>2 - y) 0 ?_ ⟨Nat.zero_le _,fun i h=>absurd h (Nat.not_lt_zero _)⟩ ?_
  ·exact WK
  ·rintro y ⟨hy,hall⟩
   obtain rfl|rfl|rfl:y=0\/y=1\/y=2:=by omega
   ·try simp (maxSteps:=9^9) only[go_sem]
    refine CondW_dec (fun hA=>?_) (fun hA=>absurd (by rw [hl]; decide) hA)
    cases hs:stpTB (nth (t:=tTour) l 1) (ni st 1) (nth (t:=tTour) l 0) (ni st 0)<;>rw [hs] at tc0
    ·try simp (maxSteps:=9^9) only[go_sem,ta0,tb0]
     repeat refine AI ?_
     try simp (maxSteps:=9^9) only[go_sem,ta0,tb0,tc0]
     repeat refine AI ?_
     refine LoopK.mk 1 ?_ ⟨by omega,fun i hi=>?_⟩ (by omega)
     ·exact WK
     ·by_cases h:i < 0
      ·exact hall i h
      ·rw [show i=0 by omega]; exact fun _=>hs
    ·rw [bdec_f (fun h=>by have:=h.2 0 (by rw [hl]; decide) (by decide); rw [hs] at this; cases this),cond_false]
     try simp (maxSteps:=9^9) only[go_sem,ta0,tb0]
     repeat refine AI ?_
     try simp (maxSteps:=9^9) only[go_sem,ta0,tb0,tc0]
     all_goals repeat refine AI ?_
     all_goals first|kernel_rfl|omega|rfl
   ·try simp (maxSteps:=9^9) only[go_sem]
    refine CondW_dec (fun hA=>?_) (fun hA=>absurd (by rw [hl]; decide) hA)
    try simp (maxSteps:=9^9) only[go_sem]
    repeat refine AI ?_
    refine LoopK.mk 2 ?_ ⟨by omega,fun i hi=>?_⟩ (by omega)
    ·exact WK
    ·by_cases h:i < 1
     ·exact hall i h
     ·intro hne; omega
   ·try simp (maxSteps:=9^9) only[go_sem]
    refine CondW_dec (fun hA=>by rw [hl] at hA; exact absurd hA (by decide)) (fun hA=>?_)
    rw [bdec_t ⟨h0,fun j hj=>hall j (by omega)⟩,cond_true]
    try simp (maxSteps:=9^9) only[go_sem]
    repeat refine AI ?_
    try simp (maxSteps:=9^9) only[go_sem]
    all_goals repeat refine AI ?_
    all_goals first|kernel_rfl|omega|rfl
set_option maxHeartbeats 4000000 in
theorem stateOf_fn3 (l:List DT) (hl:l.length=3) (st:List Int) (hst:stP l st):Fn Tryz.prog 43 [⟨.ext .ref tPlanner,some (plD3 l)⟩,⟨tInts,st⟩] false [⟨tState,(ni st 0,ni st 1,ni st 2)⟩,⟨.bool,true⟩]:=by
 have h0:(st.length:Int)=l.length:=by rw [hst.1]
 have h0':=hst.1
 have d0:=decide_eq_true h0
 have v0:=hst.2 0 (by rw [hst.1,hl]; decide)
 unfold stAt at v0
 have v1:=hst.2 1 (by rw [hst.1,hl]; decide)
 unfold stAt at v1
 have v2:=hst.2 2 (by rw [hst.1,hl]; decide)
 unfold stAt at v2
 refine fe Tryz.func43 Tryz.ntmps43 Tryz.results43 fun hwf=>?_
 try simp (maxSteps:=9^9) only[go_sem]
 repeat refine AI ?_
 try simp (maxSteps:=9^9) only[go_sem,d0]
 repeat refine AI ?_
 refine LoopG.intro _ _ _ (fun y:Nat=>match y with|0=>⟨[(0,.ref tPlanner (plD3 l) 0),(1,.sl .int st),(4,.ptr 0 0),(5,.sc (.bool false)),(6,.ptr 1 0),(19,.sl .int st),(20,.sc (.int .i64 st.length)),(21,.sc (.int .i64 0))],[(0,.box [.sc (.int .i64 0),.sc (.int .i64 0),.sc (.int .i64 0)]),(1,.box [.sc (.int .i64 0),.sc (.int .i64 0),.sc (.int .i64 0)])]⟩|1=>⟨[(0,.ref tPlanner (plD3 l) 0),(1,.sl .int st),(4,.ptr 0 0),(5,.sc (.bool false)),(6,.ptr 1 0),(19,.sl .int st),(20,.sc (.int .i64 st.length)),(21,.sc (.int .i64 1))],[(0,.box [.sc (.int .i64 0),.sc (.int .i64 0),.sc (.int .i64 0)]),(1,.box [.sc (.int .i64 (ni st 0)),.sc (.int .i64 0),.sc (.int .i64 0)])]⟩|2=>⟨[(0,.ref tPlanner (plD3 l) 0),(1,.sl .int st),(4,.ptr 0 0),(5,.sc (.bool false)),(6,.ptr 1 0),(19,.sl .int st),(20,.sc (.int .i64 st.length)),(21,.sc (.int .i64 2))],[(0,.box [.sc (.int .i64 0),.sc (.int .i64 0),.sc (.int .i64 0)]),(1,.box [.sc (.int .i64 (ni st 0)),.sc (.int .i64 (ni st 1)),.sc (.int .i64 0)])]⟩|_=>⟨[(0,.ref tPlanner (plD3 l) 0),(1,.sl .int st),(4,.ptr 0 0),(5,.sc (.bool false)),(6,.ptr 1 0),(19,.sl .int st),(20,.sc (.int .i64 st.length)),(21,.sc (.int .i64 3))],[(0,.box [.sc (.int .i64 0),.sc (.int .i64 0),.sc (.int .i64 0)]),(1,.box [.sc (.int .i64 (ni st 0)),.sc (.int .i64 (ni st 1)),.sc (.int .i64 (ni st 2))])]⟩) (fun y=>y<=3) (fun y=>3 - y) 0 ?_ (Nat.zero_le _) ?_
 ·exact WK
 ·rintro y hy
  obtain rfl|rfl|rfl|rfl:y=0\/y=1\/y=2\/y=3:=by omega
  ·try simp (maxSteps:=9^9) only[go_sem]
   refine CondW_dec (fun hA=>?_) (fun hA=>absurd (by rw [h0',hl]; decide) hA)
   have c1:=within_fn (ni st 0) 0 (nth (t:=tTour) l 0).2.2.length
   rw [decide_eq_true v0] at c1
   try simp (maxSteps:=9^9) only[go_sem]
   repeat refine AI ?_
   repeat refine AI ?_
   refine cw c1 ?_
   try simp (maxSteps:=9^9) only[go_sem]
   repeat refine AI ?_
   refine LoopK.mk 1 ?_ (by omega) (by omega)
   exact WK
  ·try simp (maxSteps:=9^9) only[go_sem]
   refine CondW_dec (fun hA=>?_) (fun hA=>absurd (by rw [h0',hl]; decide) hA)
   have c1:=within_fn (ni st 1) 0 (nth (t:=tTour) l 1).2.2.length
   rw [decide_eq_true v1] at c1
   try simp (maxSteps:=9^9) only[go_sem]
   repeat refine AI ?_
   repeat refine AI ?_
   refine cw c1 ?_
   try simp (maxSteps:=9^9) only[go_sem]
   repeat refine AI ?_
   refine LoopK.mk 2 ?_ (by omega) (by omega)
   exact WK
  ·try simp (maxSteps:=9^9) only[go_sem]
   refine CondW_dec (fun hA=>?_) (fun hA=>absurd (by rw [h0',hl]; decide) hA)
   have c1:=within_fn (ni st 2) 0 (nth (t:=tTour) l 2).2.2.length
   rw [decide_eq_true v2] at c1
   try simp (maxSteps:=9^9) only[go_sem]
   repeat refine AI ?_
   repeat refine AI ?_
   refine cw c1 ?_
   try simp (maxSteps:=9^9) only[go_sem]
   repeat refine AI ?_
   refine LoopK.mk 3 ?_ (by omega) (by omega)
   exact WK
  ·try simp (maxSteps:=9^9) only[go_sem]
   refine CondW_dec (fun hA=>by rw [h0',hl] at hA; exact absurd hA (by decide)) (fun hA=>?_)
   try simp (maxSteps:=9^9) only[go_sem]
   all_goals repeat refine AI ?_
   all_goals first|kernel_rfl|omega|rfl
set_option maxHeartbeats 4000000 in
theorem stateOf_bad3 (l:List DT) (hl:l.length=3) (st:List Int) (hst:¬ stP l st):∃ s:Int × Int × Int,Fn Tryz.prog 43 [⟨.ext .ref tPlanner,some (plD3 l)⟩,⟨tInts,st⟩] false [⟨tState,s⟩,⟨.bool,false⟩]:=by
 by_cases h0:(st.length:Int)=l.length
 ·have h0':st.length=l.length:=by omega
  have d0:=decide_eq_true h0
  by_cases v0:0<=ni st 0/\ni st 0<=(nth (t:=tTour) l 0).2.2.length
  rotate_left
  ·refine ⟨((0:Int),(0:Int),(0:Int)),?_⟩
   refine fe Tryz.func43 Tryz.ntmps43 Tryz.results43 fun hwf=>?_
   try simp (maxSteps:=9^9) only[go_sem]
   repeat refine AI ?_
   try simp (maxSteps:=9^9) only[go_sem,d0]
   repeat refine AI ?_
   refine LoopG.intro _ _ _ (fun _:Nat=>⟨[(0,.ref tPlanner (plD3 l) 0),(1,.sl .int st),(4,.ptr 0 0),(5,.sc (.bool false)),(6,.ptr 1 0),(19,.sl .int st),(20,.sc (.int .i64 st.length)),(21,.sc (.int .i64 0))],[(0,.box [.sc (.int .i64 0),.sc (.int .i64 0),.sc (.int .i64 0)]),(1,.box [.sc (.int .i64 0),.sc (.int .i64 0),.sc (.int .i64 0)])]⟩) (fun y=>y<=0) (fun y=>0 - y) 0 ?_ (Nat.zero_le _) ?_
   ·exact WK
   ·rintro y hy
    obtain rfl:y=0:=by omega
    ·try simp (maxSteps:=9^9) only[go_sem]
     refine CondW_dec (fun hA=>?_) (fun hA=>absurd (by rw [h0',hl]; decide) hA)
     have c1:=within_fn (ni st 0) 0 (nth (t:=tTour) l 0).2.2.length
     rw [decide_eq_false v0] at c1
     try simp (maxSteps:=9^9) only[go_sem]
     repeat refine AI ?_
     repeat refine AI ?_
     refine cw c1 ?_
     try simp (maxSteps:=9^9) only[go_sem]
     all_goals repeat refine AI ?_
     all_goals first|kernel_rfl|omega|rfl
  by_cases v1:0<=ni st 1/\ni st 1<=(nth (t:=tTour) l 1).2.2.length
  rotate_left
  ·refine ⟨(ni st 0,(0:Int),(0:Int)),?_⟩
   refine fe Tryz.func43 Tryz.ntmps43 Tryz.results43 fun hwf=>?_
   try simp (maxSteps:=9^9) only[go_sem]
   repeat refine AI ?_
   try simp (maxSteps:=9^9) only[go_sem,d0]
   repeat refine AI ?_
   refine LoopG.intro _ _ _ (fun y:Nat=>match y with|0=>⟨[(0,.ref tPlanner (plD3 l) 0),(1,.sl .int st),(4,.ptr 0 0),(5,.sc (.bool false)),(6,.ptr 1 0),(19,.sl .int st),(20,.sc (.int .i64 st.length)),(21,.sc (.int .i64 0))],[(0,.box [.sc (.int .i64 0),.sc (.int .i64 0),.sc (.int .i64 0)]),(1,.box [.sc (.int .i64 0),.sc (.int .i64 0),.sc (.int .i64 0)])]⟩|_=>⟨[(0,.ref tPlanner (plD3 l) 0),(1,.sl .int st),(4,.ptr 0 0),(5,.sc (.bool false)),(6,.ptr 1 0),(19,.sl .int st),(20,.sc (.int .i64 st.length)),(21,.sc (.int .i64 1))],[(0,.box [.sc (.int .i64 0),.sc (.int .i64 0),.sc (.int .i64 0)]),(1,.box [.sc (.int .i64 (ni st 0)),.sc (.int .i64 0),.sc (.int .i64 0)])]⟩) (fun y=>y<=1) (fun y=>1 - y) 0 ?_ (Nat.zero_le _) ?_
   ·exact WK
   ·rintro y hy
    obtain rfl|rfl:y=0\/y=1:=by omega
    ·try simp (maxSteps:=9^9) only[go_sem]
     refine CondW_dec (fun hA=>?_) (fun hA=>absurd (by rw [h0',hl]; decide) hA)
     have c1:=within_fn (ni st 0) 0 (nth (t:=tTour) l 0).2.2.length
     rw [decide_eq_true v0] at c1
     try simp (maxSteps:=9^9) only[go_sem]
     repeat refine AI ?_
     repeat refine AI ?_
     refine cw c1 ?_
     try simp (maxSteps:=9^9) only[go_sem]
     repeat refine AI ?_
     refine LoopK.mk 1 ?_ (by omega) (by omega)
     exact WK
    ·try simp (maxSteps:=9^9) only[go_sem]
     refine CondW_dec (fun hA=>?_) (fun hA=>absurd (by rw [h0',hl]; decide) hA)
     have c1:=within_fn (ni st 1) 0 (nth (t:=tTour) l 1).2.2.length
     rw [decide_eq_false v1] at c1
     try simp (maxSteps:=9^9) only[go_sem]
     repeat refine AI ?_
     repeat refine AI ?_
     refine cw c1 ?_
     try simp (maxSteps:=9^9) only[go_sem]
     all_goals repeat refine AI ?_
     all_goals first|kernel_rfl|omega|rfl
  by_cases v2:0<=ni st 2/\ni st 2<=(nth (t:=tTour) l 2).2.2.length
  rotate_left
  ·refine ⟨(ni st 0,ni st 1,(0:Int)),?_⟩
   refine fe Tryz.func43 Tryz.ntmps43 Tryz.results43 fun hwf=>?_
   try simp (maxSteps:=9^9) only[go_sem]
   repeat refine AI ?_
   try simp (maxSteps:=9^9) only[go_sem,d0]
   repeat refine AI ?_
   refine LoopG.intro _ _ _ (fun y:Nat=>match y with|0=>⟨[(0,.ref tPlanner (plD3 l) 0),(1,.sl .int st),(4,.ptr 0 0),(5,.sc (.bool false)),(6,.ptr 1 0),(19,.sl .int st),(20,.sc (.int .i64 st.length)),(21,.sc (.int .i64 0))],[(0,.box [.sc (.int .i64 0),.sc (.int .i64 0),.sc (.int .i64 0)]),(1,.box [.sc (.int .i64 0),.sc (.int .i64 0),.sc (.int .i64 0)])]⟩|1=>⟨[(0,.ref tPlanner (plD3 l) 0),(1,.sl .int st),(4,.ptr 0 0),(5,.sc (.bool false)),(6,.ptr 1 0),(19,.sl .int st),(20,.sc (.int .i64 st.length)),(21,.sc (.int .i64 1))],[(0,.box [.sc (.int .i64 0),.sc (.int .i64 0),.sc (.int .i64 0)]),(1,.box [.sc (.int .i64 (ni st 0)),.sc (.int .i64 0),.sc (.int .i64 0)])]⟩|_=>⟨[(0,.ref tPlanner (plD3 l) 0),(1,.sl .int st),(4,.ptr 0 0),(5,.sc (.bool false)),(6,.ptr 1 0),(19,.sl .int st),(20,.sc (.int .i64 st.length)),(21,.sc (.int .i64 2))],[(0,.box [.sc (.int .i64 0),.sc (.int .i64 0),.sc (.int .i64 0)]),(1,.box [.sc (.int .i64 (ni st 0)),.sc (.int .i64 (ni st 1)),.sc (.int .i64 0)])]⟩) (fun y=>y<=2) (fun y=>2 - y) 0 ?_ (Nat.zero_le _) ?_
   ·exact WK
   ·rintro y hy
    obtain rfl|rfl|rfl:y=0\/y=1\/y=2:=by omega
    ·try simp (maxSteps:=9^9) only[go_sem]
     refine CondW_dec (fun hA=>?_) (fun hA=>absurd (by rw [h0',hl]; decide) hA)
     have c1:=within_fn (ni st 0) 0 (nth (t:=tTour) l 0).2.2.length
     rw [decide_eq_true v0] at c1
     try simp (maxSteps:=9^9) only[go_sem]
     repeat refine AI ?_
     repeat refine AI ?_
     refine cw c1 ?_
     try simp (maxSteps:=9^9) only[go_sem]
     repeat refine AI ?_
     refine LoopK.mk 1 ?_ (by omega) (by omega)
     exact WK
    ·try simp (maxSteps:=9^9) only[go_sem]
     refine CondW_dec (fun hA=>?_) (fun hA=>absurd (by rw [h0',hl]; decide) hA)
     have c1:=within_fn (ni st 1) 0 (nth (t:=tTour) l 1).2.2.length
     rw [decide_eq_true v1] at c1
     try simp (maxSteps:=9^9) only[go_sem]
     repeat refine AI ?_
     repeat refine AI ?_
     refine cw c1 ?_
     try simp (maxSteps:=9^9) only[go_sem]
     repeat refine AI ?_
     refine LoopK.mk 2 ?_ (by omega) (by omega)
     exact WK
    ·try simp (maxSteps:=9^9) only[go_sem]
     refine CondW_dec (fun hA=>?_) (fun hA=>absurd (by rw [h0',hl]; decide) hA)
     have c1:=within_fn (ni st 2) 0 (nth (t:=tTour) l 2).2.2.length
     rw [decide_eq_false v2] at c1
     try simp (maxSteps:=9^9) only[go_sem]
     repeat refine AI ?_
     repeat refine AI ?_
     refine cw c1 ?_
     try simp (maxSteps:=9^9) only[go_sem]
     all_goals repeat refine AI ?_
     all_goals first|kernel_rfl|omega|rfl
  exact absurd ⟨h0',fun i hi=>by
   rw [h0',hl] at hi
   obtain rfl|rfl|rfl:i=0\/i=1\/i=2:=by omega
   ·exact v0
   ·exact v1
   ·exact v2⟩ hst
 ·have d0:=decide_eq_false h0
  refine ⟨((0:Int),(0:Int),(0:Int)),?_⟩
  refine fe Tryz.func43 Tryz.ntmps43 Tryz.results43 fun hwf=>?_
  try simp (maxSteps:=9^9) only[go_sem]
  repeat refine AI ?_
  try simp (maxSteps:=9^9) only[go_sem,d0]
  all_goals repeat refine AI ?_
  all_goals first|kernel_rfl|omega|rfl
set_option maxHeartbeats 4000000 in
theorem advance_fn30 (l:List DT) (hl:l.length=3) (st:List Int) (har:arP l) (hst:stP l st):Fn Tryz.prog 37 [⟨.ext .ref tPlanner,some (plD3 l)⟩,⟨tState,(ni st 0,ni st 1,ni st 2)⟩,⟨.int,0⟩] false [⟨tState,bif bdec (frP l st 0) then (ni st 0+1,ni st 1,ni st 2) else (ni st 0,ni st 1,ni st 2)⟩,⟨.bool,bdec (frP l st 0)⟩]:=by
 have hr0:=(har 0 (by rw [hl]; decide)).1
 have v0:=hst.2 0 (by rw [hst.1,hl]; decide)
 unfold stAt at v0
 have v1:=hst.2 1 (by rw [hst.1,hl]; decide)
 unfold stAt at v1
 have hr1:=(har 1 (by rw [hl]; decide)).1
 have v2:=hst.2 2 (by rw [hst.1,hl]; decide)
 unfold stAt at v2
 have hr2:=(har 2 (by rw [hl]; decide)).1
 have hs8:=(tour_parts hr0).2.2.2.1
 by_cases h0:ni st 0=(nth (t:=tTour) l 0).2.2.length
 ·have d0:=decide_eq_true h0
  rw [bdec_f fun h=>h.1 h0,cond_false]
  refine fe Tryz.func37 Tryz.ntmps37 Tryz.results37 fun hwf=>?_
  try simp (maxSteps:=9^9) only[go_sem]
  repeat refine AI ?_
  try simp (maxSteps:=9^9) only[go_sem,d0]
  all_goals repeat refine AI ?_
  all_goals first|kernel_rfl|omega|rfl
 ·have d0:=decide_eq_false h0
  have ta1:=tab_len hr0 hr1
  have tb1:=tab_nlen hr0 hr1 v0.1 (by omega)
  have tc1:=tab_get hr0 hr1 v0.1 (by omega) v1.1 v1.2
  have ta2:=tab_len hr0 hr2
  have tb2:=tab_nlen hr0 hr2 v0.1 (by omega)
  have tc2:=tab_get hr0 hr2 v0.1 (by omega) v2.1 v2.2
  refine fe Tryz.func37 Tryz.ntmps37 Tryz.results37 fun hwf=>?_
  try simp (maxSteps:=9^9) only[go_sem]
  repeat refine AI ?_
  try simp (maxSteps:=9^9) only[go_sem,d0]
  repeat refine AI ?_
  refine LoopG.intro _ _ _ (fun y:Nat=>match y with|0=>⟨[(0,.ref tPlanner (plD3 l) 0),(2,.sc (.int .i64 0)),(4,.ptr 0 0),(6,.ptr 1 0),(7,.sc (.bool false)),(27,.sc (.int .i64 l.length)),(28,.sc (.int .i64 0))],[(0,.box [.sc (.int .i64 (ni st 0)),.sc (.int .i64 (ni st 1)),.sc (.int .i64 (ni st 2))]),(1,.box [.sc (.int .i64 0),.sc (.int .i64 0),.sc (.int .i64 0)])]⟩|1=>⟨[(0,.ref tPlanner (plD3 l) 0),(2,.sc (.int .i64 0)),(4,.ptr 0 0),(6,.ptr 1 0),(7,.sc (.bool false)),(27,.sc (.int .i64 l.length)),(28,.sc (.int .i64 1))],[(0,.box [.sc (.int .i64 (ni st 0)),.sc (.int .i64 (ni st 1)),.sc (.int .i64 (ni st 2))]),(1,.box [.sc (.int .i64 0),.sc (.int .i64 0),.sc (.int .i64 0)])]⟩|2=>⟨[(0,.ref tPlanner (plD3 l) 0),(2,.sc (.int .i64 0)),(4,.ptr 0 0),(6,.ptr 1 0),(7,.sc (.bool false)),(27,.sc (.int .i64 l.length)),(28,.sc (.int .i64 2))],[(0,.box [.sc (.int .i64 (ni st 0)),.sc (.int .i64 (ni st 1)),.sc (.int .i64 (ni st 2))]),(1,.box [.sc (.int .i64 0),.sc (.int .i64 0),.sc (.int .i64 0)])]⟩|_=>⟨[(0,.ref tPlanner (plD3 l) 0),(2,.sc (.int .i64 0)),(4,.ptr 0 0),(6,.ptr 1 0),(7,.sc (.bool false)),(27,.sc (.int .i64 l.length)),(28,.sc (.int .i64 3))],[(0,.box [.sc (.int .i64 (ni st 0)),.sc (.int .i64 (ni st 1)),.sc (.int .i64 (ni st 2))]),(1,.box [.sc (.int .i64 0),.sc (.int .i64 0),.sc (.int .i64 0)])]⟩) (fun y=>y<=3/\∀ i,i < y->frAt l st 0 i) (fun y=>3 - y) 0 ?_ ⟨Nat.zero_le _,fun i h=>absurd h (Nat.not_lt_zero _)⟩ ?_
  ·exact WK
  ·rintro y ⟨hy,hall⟩
   obtain rfl|rfl|rfl|rfl:y=0\/y=1\/y=2\/y=3:=by omega
   ·try simp (maxSteps:=9^9) only[go_sem]
    refine CondW_dec (fun hA=>?_) (fun hA=>absurd (by rw [hl]; decide) hA)
    try simp (maxSteps:=9^9) only[go_sem]
    repeat refine AI ?_
    refine LoopK.mk 1 ?_ ⟨by omega,fun i hi=>?_⟩ (by omega)
    ·exact WK
    ·by_cases h:i < 0
     ·exact hall i h
     ·intro hne; omega
   ·try simp (maxSteps:=9^9) only[go_sem]
    refine CondW_dec (fun hA=>?_) (fun hA=>absurd (by rw [hl]; decide) hA)
    cases hs:stpTB (nth (t:=tTour) l 0) (ni st 0) (nth (t:=tTour) l 1) (ni st 1)<;>rw [hs] at tc1
    ·try simp (maxSteps:=9^9) only[go_sem,ta1,tb1]
     repeat refine AI ?_
     try simp (maxSteps:=9^9) only[go_sem,ta1,tb1,tc1]
     repeat refine AI ?_
     refine LoopK.mk 2 ?_ ⟨by omega,fun i hi=>?_⟩ (by omega)
     ·exact WK
     ·by_cases h:i < 1
      ·exact hall i h
      ·rw [show i=1 by omega]; exact fun _=>hs
    ·rw [bdec_f (fun h=>by have:=h.2 1 (by rw [hl]; decide) (by decide); rw [hs] at this; cases this),cond_false]
     try simp (maxSteps:=9^9) only[go_sem,ta1,tb1]
     repeat refine AI ?_
     try simp (maxSteps:=9^9) only[go_sem,ta1,tb1,tc1]
     all_goals repeat refine AI ?_
     all_goals first|kernel_rfl|omega|rfl
   ·try simp (maxSteps:=9^9) only[go_sem]
    refine CondW_dec (fun hA=>?_) (fun hA=>absurd (by rw [hl]; decide) hA)
    cases hs:stpTB (nth (t:=tTour) l 0) (ni st 0) (nth (t:=tTour) l 2) (ni st 2)<;>rw [hs] at tc2
    ·try simp (maxSteps:=9^9) only[go_sem,ta2,tb2]
     repeat refine AI ?_
     try simp (maxSteps:=9^9) only[go_sem,ta2,tb2,tc2]
     repeat refine AI ?_
     refine LoopK.mk 3 ?_ ⟨by omega,fun i hi=>?_⟩ (by omega)
     ·exact WK
     ·by_cases h:i < 2
      ·exact hall i h
      ·rw [show i=2 by omega]; exact fun _=>hs
    ·rw [bdec_f (fun h=>by have:=h.2 2 (by rw [hl]; decide) (by decide); rw [hs] at this; cases this),cond_false]
     try simp (maxSteps:=9^9) only[go_sem,ta2,tb2]
     repeat refine AI ?_
     try simp (maxSteps:=9^9) only[go_sem,ta2,tb2,tc2]
     all_goals repeat refine AI ?_
     all_goals first|kernel_rfl|omega|rfl
   ·try simp (maxSteps:=9^9) only[go_sem]
    refine CondW_dec (fun hA=>by rw [hl] at hA; exact absurd hA (by decide)) (fun hA=>?_)
    rw [bdec_t ⟨h0,fun j hj=>hall j (by omega)⟩,cond_true]
    try simp (maxSteps:=9^9) only[go_sem]
    repeat refine AI ?_
    try simp (maxSteps:=9^9) only[go_sem]
    all_goals repeat refine AI ?_
    all_goals first|kernel_rfl|omega|rfl
set_option maxHeartbeats 4000000 in
theorem advance_fn31 (l:List DT) (hl:l.length=3) (st:List Int) (har:arP l) (hst:stP l st):Fn Tryz.prog 37 [⟨.ext .ref tPlanner,some (plD3 l)⟩,⟨tState,(ni st 0,ni st 1,ni st 2)⟩,⟨.int,1⟩] false [⟨tState,bif bdec (frP l st 1) then (ni st 0,ni st 1+1,ni st 2) else (ni st 0,ni st 1,ni st 2)⟩,⟨.bool,bdec (frP l st 1)⟩]:=by
 have hr1:=(har 1 (by rw [hl]; decide)).1
 have v0:=hst.2 0 (by rw [hst.1,hl]; decide)
 unfold stAt at v0
 have hr0:=(har 0 (by rw [hl]; decide)).1
 have v1:=hst.2 1 (by rw [hst.1,hl]; decide)
 unfold stAt at v1
 have v2:=hst.2 2 (by rw [hst.1,hl]; decide)
 unfold stAt at v2
 have hr2:=(har 2 (by rw [hl]; decide)).1
 have hs8:=(tour_parts hr1).2.2.2.1
 by_cases h0:ni st 1=(nth (t:=tTour) l 1).2.2.length
 ·have d0:=decide_eq_true h0
  rw [bdec_f fun h=>h.1 h0,cond_false]
  refine fe Tryz.func37 Tryz.ntmps37 Tryz.results37 fun hwf=>?_
  try simp (maxSteps:=9^9) only[go_sem]
  repeat refine AI ?_
  try simp (maxSteps:=9^9) only[go_sem,d0]
  all_goals repeat refine AI ?_
  all_goals first|kernel_rfl|omega|rfl
 ·have d0:=decide_eq_false h0
  have ta0:=tab_len hr1 hr0
  have tb0:=tab_nlen hr1 hr0 v1.1 (by omega)
  have tc0:=tab_get hr1 hr0 v1.1 (by omega) v0.1 v0.2
  have ta2:=tab_len hr1 hr2
  have tb2:=tab_nlen hr1 hr2 v1.1 (by omega)
  have tc2:=tab_get hr1 hr2 v1.1 (by omega) v2.1 v2.2
  refine fe Tryz.func37 Tryz.ntmps37 Tryz.results37 fun hwf=>?_
  try simp (maxSteps:=9^9) only[go_sem]
  repeat refine AI ?_
  try simp (maxSteps:=9^9) only[go_sem,d0]
  repeat refine AI ?_
  refine LoopG.intro _ _ _ (fun y:Nat=>match y with|0=>⟨[(0,.ref tPlanner (plD3 l) 0),(2,.sc (.int .i64 1)),(4,.ptr 0 0),(6,.ptr 1 0),(7,.sc (.bool false)),(27,.sc (.int .i64 l.length)),(28,.sc (.int .i64 0))],[(0,.box [.sc (.int .i64 (ni st 0)),.sc (.int .i64 (ni st 1)),.sc (.int .i64 (ni st 2))]),(1,.box [.sc (.int .i64 0),.sc (.int .i64 0),.sc (.int .i64 0)])]⟩|1=>⟨[(0,.ref tPlanner (plD3 l) 0),(2,.sc (.int .i64 1)),(4,.ptr 0 0),(6,.ptr 1 0),(7,.sc (.bool false)),(27,.sc (.int .i64 l.length)),(28,.sc (.int .i64 1))],[(0,.box [.sc (.int .i64 (ni st 0)),.sc (.int .i64 (ni st 1)),.sc (.int .i64 (ni st 2))]),(1,.box [.sc (.int .i64 0),.sc (.int .i64 0),.sc (.int .i64 0)])]⟩|2=>⟨[(0,.ref tPlanner (plD3 l) 0),(2,.sc (.int .i64 1)),(4,.ptr 0 0),(6,.ptr 1 0),(7,.sc (.bool false)),(27,.sc (.int .i64 l.length)),(28,.sc (.int .i64 2))],[(0,.box [.sc (.int .i64 (ni st 0)),.sc (.int .i64 (ni st 1)),.sc (.int .i64 (ni st 2))]),(1,.box [.sc (.int .i64 0),.sc (.int .i64 0),.sc (.int .i64 0)])]⟩|_=>⟨[(0,.ref tPlanner (plD3 l) 0),(2,.sc (.int .i64 1)),(4,.ptr 0 0),(6,.ptr 1 0),(7,.sc (.bool false)),(27,.sc (.int .i64 l.length)),(28,.sc (.int .i64 3))],[(0,.box [.sc (.int .i64 (ni st 0)),.sc (.int .i64 (ni st 1)),.sc (.int .i64 (ni st 2))]),(1,.box [.sc (.int .i64 0),.sc (.int .i64 0),.sc (.int .i64 0)])]⟩) (fun y=>y<=3/\∀ i,i < y->frAt l st 1 i) (fun y=>3 - y) 0 ?_ ⟨Nat.zero_le _,fun i h=>absurd h (Nat.not_lt_zero _)⟩ ?_
  ·exact WK
  ·rintro y ⟨hy,hall⟩
   obtain rfl|rfl|rfl|rfl:y=0\/y=1\/y=2\/y=3:=by omega
   ·try simp (maxSteps:=9^9) only[go_sem]
    refine CondW_dec (fun hA=>?_) (fun hA=>absurd (by rw [hl]; decide) hA)
    cases hs:stpTB (nth (t:=tTour) l 1) (ni st 1) (nth (t:=tTour) l 0) (ni st 0)<;>rw [hs] at tc0
    ·try simp (maxSteps:=9^9) only[go_sem,ta0,tb0]
     repeat refine AI ?_
     try simp (maxSteps:=9^9) only[go_sem,ta0,tb0,tc0]
     repeat refine AI ?_
     refine LoopK.mk 1 ?_ ⟨by omega,fun i hi=>?_⟩ (by omega)
     ·exact WK
     ·by_cases h:i < 0
      ·exact hall i h
      ·rw [show i=0 by omega]; exact fun _=>hs
    ·rw [bdec_f (fun h=>by have:=h.2 0 (by rw [hl]; decide) (by decide); rw [hs] at this; cases this),cond_false]
     try simp (maxSteps:=9^9) only[go_sem,ta0,tb0]
     repeat refine AI ?_
     try simp (maxSteps:=9^9) only[go_sem,ta0,tb0,tc0]
     all_goals repeat refine AI ?_
     all_goals first|kernel_rfl|omega|rfl
   ·try simp (maxSteps:=9^9) only[go_sem]
    refine CondW_dec (fun hA=>?_) (fun hA=>absurd (by rw [hl]; decide) hA)
    try simp (maxSteps:=9^9) only[go_sem]
    repeat refine AI ?_
    refine LoopK.mk 2 ?_ ⟨by omega,fun i hi=>?_⟩ (by omega)
    ·exact WK
    ·by_cases h:i < 1
     ·exact hall i h
     ·intro hne; omega
   ·try simp (maxSteps:=9^9) only[go_sem]
    refine CondW_dec (fun hA=>?_) (fun hA=>absurd (by rw [hl]; decide) hA)
    cases hs:stpTB (nth (t:=tTour) l 1) (ni st 1) (nth (t:=tTour) l 2) (ni st 2)<;>rw [hs] at tc2
    ·try simp (maxSteps:=9^9) only[go_sem,ta2,tb2]
     repeat refine AI ?_
     try simp (maxSteps:=9^9) only[go_sem,ta2,tb2,tc2]
     repeat refine AI ?_
     refine LoopK.mk 3 ?_ ⟨by omega,fun i hi=>?_⟩ (by omega)
     ·exact WK
     ·by_cases h:i < 2
      ·exact hall i h
      ·rw [show i=2 by omega]; exact fun _=>hs
    ·rw [bdec_f (fun h=>by have:=h.2 2 (by rw [hl]; decide) (by decide); rw [hs] at this; cases this),cond_false]
     try simp (maxSteps:=9^9) only[go_sem,ta2,tb2]
     repeat refine AI ?_
     try simp (maxSteps:=9^9) only[go_sem,ta2,tb2,tc2]
     all_goals repeat refine AI ?_
     all_goals first|kernel_rfl|omega|rfl
   ·try simp (maxSteps:=9^9) only[go_sem]
    refine CondW_dec (fun hA=>by rw [hl] at hA; exact absurd hA (by decide)) (fun hA=>?_)
    rw [bdec_t ⟨h0,fun j hj=>hall j (by omega)⟩,cond_true]
    try simp (maxSteps:=9^9) only[go_sem]
    repeat refine AI ?_
    try simp (maxSteps:=9^9) only[go_sem]
    all_goals repeat refine AI ?_
    all_goals first|kernel_rfl|omega|rfl
set_option maxHeartbeats 4000000 in
theorem advance_fn32 (l:List DT) (hl:l.length=3) (st:List Int) (har:arP l) (hst:stP l st):Fn Tryz.prog 37 [⟨.ext .ref tPlanner,some (plD3 l)⟩,⟨tState,(ni st 0,ni st 1,ni st 2)⟩,⟨.int,2⟩] false [⟨tState,bif bdec (frP l st 2) then (ni st 0,ni st 1,ni st 2+1) else (ni st 0,ni st 1,ni st 2)⟩,⟨.bool,bdec (frP l st 2)⟩]:=by
 have hr2:=(har 2 (by rw [hl]; decide)).1
 have v0:=hst.2 0 (by rw [hst.1,hl]; decide)
 unfold stAt at v0
 have hr0:=(har 0 (by rw [hl]; decide)).1
 have v1:=hst.2 1 (by rw [hst.1,hl]; decide)
 unfold stAt at v1
 have hr1:=(har 1 (by rw [hl]; decide)).1
 have v2:=hst.2 2 (by rw [hst.1,hl]; decide)
 unfold stAt at v2
 have hs8:=(tour_parts hr2).2.2.2.1
 by_cases h0:ni st 2=(nth (t:=tTour) l 2).2.2.length
 ·have d0:=decide_eq_true h0
  rw [bdec_f fun h=>h.1 h0,cond_false]
  refine fe Tryz.func37 Tryz.ntmps37 Tryz.results37 fun hwf=>?_
  try simp (maxSteps:=9^9) only[go_sem]
  repeat refine AI ?_
  try simp (maxSteps:=9^9) only[go_sem,d0]
  all_goals repeat refine AI ?_
  all_goals first|kernel_rfl|omega|rfl
 ·have d0:=decide_eq_false h0
  have ta0:=tab_len hr2 hr0
  have tb0:=tab_nlen hr2 hr0 v2.1 (by omega)
  have tc0:=tab_get hr2 hr0 v2.1 (by omega) v0.1 v0.2
  have ta1:=tab_len hr2 hr1
  have tb1:=tab_nlen hr2 hr1 v2.1 (by omega)
  have tc1:=tab_get hr2 hr1 v2.1 (by omega) v1.1 v1.2
  refine fe Tryz.func37 Tryz.ntmps37 Tryz.results37 fun hwf=>?_
  try simp (maxSteps:=9^9) only[go_sem]
  repeat refine AI ?_
  try simp (maxSteps:=9^9) only[go_sem,d0]
  repeat refine AI ?_
  refine LoopG.intro _ _ _ (fun y:Nat=>match y with|0=>⟨[(0,.ref tPlanner (plD3 l) 0),(2,.sc (.int .i64 2)),(4,.ptr 0 0),(6,.ptr 1 0),(7,.sc (.bool false)),(27,.sc (.int .i64 l.length)),(28,.sc (.int .i64 0))],[(0,.box [.sc (.int .i64 (ni st 0)),.sc (.int .i64 (ni st 1)),.sc (.int .i64 (ni st 2))]),(1,.box [.sc (.int .i64 0),.sc (.int .i64 0),.sc (.int .i64 0)])]⟩|1=>⟨[(0,.ref tPlanner (plD3 l) 0),(2,.sc (.int .i64 2)),(4,.ptr 0 0),(6,.ptr 1 0),(7,.sc (.bool false)),(27,.sc (.int .i64 l.length)),(28,.sc (.int .i64 1))],[(0,.box [.sc (.int .i64 (ni st 0)),.sc (.int .i64 (ni st 1)),.sc (.int .i64 (ni st 2))]),(1,.box [.sc (.int .i64 0),.sc (.int .i64 0),.sc (.int .i64 0)])]⟩|2=>⟨[(0,.ref tPlanner (plD3 l) 0),(2,.sc (.int .i64 2)),(4,.ptr 0 0),(6,.ptr 1 0),(7,.sc (.bool false)),(27,.sc (.int .i64 l.length)),(28,.sc (.int .i64 2))],[(0,.box [.sc (.int .i64 (ni st 0)),.sc (.int .i64 (ni st 1)),.sc (.int .i64 (ni st 2))]),(1,.box [.sc (.int .i64 0),.sc (.int .i64 0),.sc (.int .i64 0)])]⟩|_=>⟨[(0,.ref tPlanner (plD3 l) 0),(2,.sc (.int .i64 2)),(4,.ptr 0 0),(6,.ptr 1 0),(7,.sc (.bool false)),(27,.sc (.int .i64 l.length)),(28,.sc (.int .i64 3))],[(0,.box [.sc (.int .i64 (ni st 0)),.sc (.int .i64 (ni st 1)),.sc (.int .i64 (ni st 2))]),(1,.box [.sc (.int .i64 0),.sc (.int .i64 0),.sc (.int .i64 0)])]⟩) (fun y=>y<=3/\∀ i,i < y->frAt l st 2 i) (fun y=>3 - y) 0 ?_ ⟨Nat.zero_le _,fun i h=>absurd h (Nat.not_lt_zero _)⟩ ?_
  ·exact WK
  ·rintro y ⟨hy,hall⟩
   obtain rfl|rfl|rfl|rfl:y=0\/y=1\/y=2\/y=3:=by omega
   ·try simp (maxSteps:=9^9) only[go_sem]
    refine CondW_dec (fun hA=>?_) (fun hA=>absurd (by rw [hl]; decide) hA)
    cases hs:stpTB (nth (t:=tTour) l 2) (ni st 2) (nth (t:=tTour) l 0) (ni st 0)<;>rw [hs] at tc0
    ·try simp (maxSteps:=9^9) only[go_sem,ta0,tb0]
     repeat refine AI ?_
     try simp (maxSteps:=9^9) only[go_sem,ta0,tb0,tc0]
     repeat refine AI ?_
     refine LoopK.mk 1 ?_ ⟨by omega,fun i hi=>?_⟩ (by omega)
     ·exact WK
     ·by_cases h:i < 0
      ·exact hall i h
      ·rw [show i=0 by omega]; exact fun _=>hs
    ·rw [bdec_f (fun h=>by have:=h.2 0 (by rw [hl]; decide) (by decide); rw [hs] at this; cases this),cond_false]
     try simp (maxSteps:=9^9) only[go_sem,ta0,tb0]
     repeat refine AI ?_
     try simp (maxSteps:=9^9) only[go_sem,ta0,tb0,tc0]
     all_goals repeat refine AI ?_
     all_goals first|kernel_rfl|omega|rfl
   ·try simp (maxSteps:=9^9) only[go_sem]
    refine CondW_dec (fun hA=>?_) (fun hA=>absurd (by rw [hl]; decide) hA)
    cases hs:stpTB (nth (t:=tTour) l 2) (ni st 2) (nth (t:=tTour) l 1) (ni st 1)<;>rw [hs] at tc1
    ·try simp (maxSteps:=9^9) only[go_sem,ta1,tb1]
     repeat refine AI ?_
     try simp (maxSteps:=9^9) only[go_sem,ta1,tb1,tc1]
     repeat refine AI ?_
     refine LoopK.mk 2 ?_ ⟨by omega,fun i hi=>?_⟩ (by omega)
     ·exact WK
     ·by_cases h:i < 1
      ·exact hall i h
      ·rw [show i=1 by omega]; exact fun _=>hs
    ·rw [bdec_f (fun h=>by have:=h.2 1 (by rw [hl]; decide) (by decide); rw [hs] at this; cases this),cond_false]
     try simp (maxSteps:=9^9) only[go_sem,ta1,tb1]
     repeat refine AI ?_
     try simp (maxSteps:=9^9) only[go_sem,ta1,tb1,tc1]
     all_goals repeat refine AI ?_
     all_goals first|kernel_rfl|omega|rfl
   ·try simp (maxSteps:=9^9) only[go_sem]
    refine CondW_dec (fun hA=>?_) (fun hA=>absurd (by rw [hl]; decide) hA)
    try simp (maxSteps:=9^9) only[go_sem]
    repeat refine AI ?_
    refine LoopK.mk 3 ?_ ⟨by omega,fun i hi=>?_⟩ (by omega)
    ·exact WK
    ·by_cases h:i < 2
     ·exact hall i h
     ·intro hne; omega
   ·try simp (maxSteps:=9^9) only[go_sem]
    refine CondW_dec (fun hA=>by rw [hl] at hA; exact absurd hA (by decide)) (fun hA=>?_)
    rw [bdec_t ⟨h0,fun j hj=>hall j (by omega)⟩,cond_true]
    try simp (maxSteps:=9^9) only[go_sem]
    repeat refine AI ?_
    try simp (maxSteps:=9^9) only[go_sem]
    all_goals repeat refine AI ?_
    all_goals first|kernel_rfl|omega|rfl
def adv (st:List Int) (k:Nat):List Int:=st.set k (ni st k+1)
def okAt (l:List DT) (st:List Int) (k:Int):Prop:=(0<=k/\k<=(l.length:Int) - 1)/\frP l st k.toNat
open Classical in
noncomputable def schGo (l:List DT):List Int->List Int->Option (List Int)
 | [],st=>some st
 | k :: o,st=>if okAt l st k then schGo l o (adv st k.toNat) else none
def endP (l:List DT) (st:List Int):Prop:=∀ i,i < l.length->ni st i=(nth (t:=tTour) l i).2.2.length
def schP (l:List DT) (o:List Int):Prop:=arB l=true/\∃ st,schGo l o (List.replicate l.length 0)=some st/\endP l st
theorem schGo_t {l:List DT} {k:Int} {o st:List Int} (h:okAt l st k):schGo l (k :: o) st=schGo l o (adv st k.toNat):=if_pos h
theorem schGo_f {l:List DT} {k:Int} {o st:List Int} (h:¬ okAt l st k):schGo l (k :: o) st=none:=if_neg h
theorem ni_set {st:List Int} {k i:Nat} {v:Int} (hk:k < st.length):ni (st.set k v) i=if i=k then v else ni st i:=by
 unfold ni
 by_cases h:i=k
 ·subst h
  rw [if_pos rfl,nth_lt (by rw [List.length_set]; exact hk)]
  simp
 ·rw [if_neg h]
  by_cases hi:i < st.length
  ·rw [nth_lt (by rw [List.length_set]; exact hi),nth_lt hi]
   simp [List.getElem_set,Ne.symm h]
  ·unfold nth
   simp [List.getD_eq_getElem?_getD,List.getElem?_set,Ne.symm h]
theorem adv_len {st:List Int} {k:Nat}:(adv st k).length=st.length:=by unfold adv; rw [List.length_set]
theorem ni_adv {st:List Int} {k i:Nat} (hk:k < st.length):ni (adv st k) i=if i=k then ni st k+1 else ni st i:=ni_set hk
theorem stP_adv {l:List DT} {st:List Int} {k:Nat} (h:stP l st) (hk:k < l.length) (hf:ni st k ≠ (nth (t:=tTour) l k).2.2.length):stP l (adv st k):=by
 have hk':k < st.length:=by rw [h.1]; exact hk
 refine ⟨by rw [adv_len]; exact h.1,fun i hi=>?_⟩
 rw [adv_len] at hi
 have hv:=h.2 i hi
 unfold stAt at hv ⊢
 rw [ni_adv hk']
 by_cases e:i=k
 ·subst e; rw [if_pos rfl]; omega
 ·rw [if_neg e]; exact hv
theorem stP_zero (l:List DT):stP l (List.replicate l.length 0):=by
 refine ⟨by simp,fun i hi=>?_⟩
 have:ni (List.replicate l.length 0) i=0:=by
  unfold ni; rw [nth_lt hi]; simp
 unfold stAt
 rw [this]
 exact ⟨Int.le_refl _,by omega⟩
theorem drop_nth {o:List Int} {i:Nat} (h:i < o.length):o.drop i=ni o i :: o.drop (i+1):=by
 rw [List.drop_eq_getElem_cons h]
 unfold ni; rw [nth_lt h]
theorem sch_bdec {l:List DT} {o st:List Int} (ha:arB l=true) (h:schGo l o (List.replicate l.length 0)=some st):bdec (schP l o)=bdec (endP l st):=by
 by_cases he:endP l st
 ·rw [bdec_t he]; exact bdec_t ⟨ha,st,h,he⟩
 ·rw [bdec_f he]; exact bdec_f fun ⟨_,st',h',he'⟩=>by rw [h] at h'; injection h' with h'; subst h'; exact he he'
theorem sch_no {l:List DT} {o:List Int} (h:schGo l o (List.replicate l.length 0)=none):bdec (schP l o)=false:=bdec_f fun ⟨_,st',h',_⟩=>by rw [h] at h'; cases h'
set_option maxHeartbeats 4000000 in
theorem isEnd_fn1 (l:List DT) (hl:l.length=1) (st:List Int) (hst:stP l st):Fn Tryz.prog 36 [⟨.ext .ref tPlanner,some (plD1 l)⟩,⟨tState,(ni st 0,(0:Int),(0:Int))⟩] false [⟨.bool,bdec (endP l st)⟩]:=by
 have v0:=hst.2 0 (by rw [hst.1,hl]; decide)
 unfold stAt at v0
 refine fe Tryz.func36 Tryz.ntmps36 Tryz.results36 fun hwf=>?_
 try simp (maxSteps:=9^9) only[go_sem]
 repeat refine AI ?_
 refine LoopG.intro _ _ _ (fun y:Nat=>match y with|0=>⟨[(3,.ptr 0 0),(10,.sl tTour l),(11,.sc (.int .i64 l.length)),(12,.sc (.int .i64 0))],[(0,.box [.sc (.int .i64 (ni st 0)),.sc (.int .i64 0),.sc (.int .i64 0)])]⟩|_=>⟨[(3,.ptr 0 0),(10,.sl tTour l),(11,.sc (.int .i64 l.length)),(12,.sc (.int .i64 1))],[(0,.box [.sc (.int .i64 (ni st 0)),.sc (.int .i64 0),.sc (.int .i64 0)])]⟩) (fun y=>y<=1/\∀ j,j < y->ni st j=(nth (t:=tTour) l j).2.2.length) (fun y=>1 - y) 0 ?_ ⟨Nat.zero_le _,fun j h=>absurd h (Nat.not_lt_zero _)⟩ ?_
 ·exact WK
 ·rintro y ⟨hy,hall⟩
  obtain rfl|rfl:y=0\/y=1:=by omega
  ·try simp (maxSteps:=9^9) only[go_sem]
   refine CondW_dec (fun hA=>?_) (fun hA=>absurd (by rw [hl]; decide) hA)
   by_cases he:ni st 0=(nth (t:=tTour) l 0).2.2.length
   ·have d1:=decide_eq_true he
    try simp (maxSteps:=9^9) only[go_sem]
    repeat refine AI ?_
    try simp (maxSteps:=9^9) only[go_sem,d1]
    repeat refine AI ?_
    refine LoopK.mk 1 ?_ ⟨by omega,fun j hj=>?_⟩ (by omega)
    ·exact WK
    ·by_cases h:j < 0
     ·exact hall j h
     ·rw [show j=0 by omega]; exact he
   ·have d1:=decide_eq_false he
    rw [bdec_f fun h=>he (h 0 (by rw [hl]; decide))]
    try simp (maxSteps:=9^9) only[go_sem]
    repeat refine AI ?_
    try simp (maxSteps:=9^9) only[go_sem,d1]
    all_goals repeat refine AI ?_
    all_goals first|kernel_rfl|omega|rfl
  ·try simp (maxSteps:=9^9) only[go_sem]
   refine CondW_dec (fun hA=>by rw [hl] at hA; exact absurd hA (by decide)) (fun hA=>?_)
   rw [bdec_t (p:=endP l st) fun j hj=>hall j (by omega)]
   try simp (maxSteps:=9^9) only[go_sem]
   all_goals repeat refine AI ?_
   all_goals first|kernel_rfl|omega|rfl
set_option maxHeartbeats 4000000 in
theorem isEnd_fn2 (l:List DT) (hl:l.length=2) (st:List Int) (hst:stP l st):Fn Tryz.prog 36 [⟨.ext .ref tPlanner,some (plD2 l)⟩,⟨tState,(ni st 0,ni st 1,(0:Int))⟩] false [⟨.bool,bdec (endP l st)⟩]:=by
 have v0:=hst.2 0 (by rw [hst.1,hl]; decide)
 unfold stAt at v0
 have v1:=hst.2 1 (by rw [hst.1,hl]; decide)
 unfold stAt at v1
 refine fe Tryz.func36 Tryz.ntmps36 Tryz.results36 fun hwf=>?_
 try simp (maxSteps:=9^9) only[go_sem]
 repeat refine AI ?_
 refine LoopG.intro _ _ _ (fun y:Nat=>match y with|0=>⟨[(3,.ptr 0 0),(10,.sl tTour l),(11,.sc (.int .i64 l.length)),(12,.sc (.int .i64 0))],[(0,.box [.sc (.int .i64 (ni st 0)),.sc (.int .i64 (ni st 1)),.sc (.int .i64 0)])]⟩|1=>⟨[(3,.ptr 0 0),(10,.sl tTour l),(11,.sc (.int .i64 l.length)),(12,.sc (.int .i64 1))],[(0,.box [.sc (.int .i64 (ni st 0)),.sc (.int .i64 (ni st 1)),.sc (.int .i64 0)])]⟩|_=>⟨[(3,.ptr 0 0),(10,.sl tTour l),(11,.sc (.int .i64 l.length)),(12,.sc (.int .i64 2))],[(0,.box [.sc (.int .i64 (ni st 0)),.sc (.int .i64 (ni st 1)),.sc (.int .i64 0)])]⟩) (fun y=>y<=2/\∀ j,j < y->ni st j=(nth (t:=tTour) l j).2.2.length) (fun y=>2 - y) 0 ?_ ⟨Nat.zero_le _,fun j h=>absurd h (Nat.not_lt_zero _)⟩ ?_
 ·exact WK
 ·rintro y ⟨hy,hall⟩
  obtain rfl|rfl|rfl:y=0\/y=1\/y=2:=by omega
  ·try simp (maxSteps:=9^9) only[go_sem]
   refine CondW_dec (fun hA=>?_) (fun hA=>absurd (by rw [hl]; decide) hA)
   by_cases he:ni st 0=(nth (t:=tTour) l 0).2.2.length
   ·have d1:=decide_eq_true he
    try simp (maxSteps:=9^9) only[go_sem]
    repeat refine AI ?_
    try simp (maxSteps:=9^9) only[go_sem,d1]
    repeat refine AI ?_
    refine LoopK.mk 1 ?_ ⟨by omega,fun j hj=>?_⟩ (by omega)
    ·exact WK
    ·by_cases h:j < 0
     ·exact hall j h
     ·rw [show j=0 by omega]; exact he
   ·have d1:=decide_eq_false he
    rw [bdec_f fun h=>he (h 0 (by rw [hl]; decide))]
    try simp (maxSteps:=9^9) only[go_sem]
    repeat refine AI ?_
    try simp (maxSteps:=9^9) only[go_sem,d1]
    all_goals repeat refine AI ?_
    all_goals first|kernel_rfl|omega|rfl
  ·try simp (maxSteps:=9^9) only[go_sem]
   refine CondW_dec (fun hA=>?_) (fun hA=>absurd (by rw [hl]; decide) hA)
   by_cases he:ni st 1=(nth (t:=tTour) l 1).2.2.length
   ·have d1:=decide_eq_true he
    try simp (maxSteps:=9^9) only[go_sem]
    repeat refine AI ?_
    try simp (maxSteps:=9^9) only[go_sem,d1]
    repeat refine AI ?_
    refine LoopK.mk 2 ?_ ⟨by omega,fun j hj=>?_⟩ (by omega)
    ·exact WK
    ·by_cases h:j < 1
     ·exact hall j h
     ·rw [show j=1 by omega]; exact he
   ·have d1:=decide_eq_false he
    rw [bdec_f fun h=>he (h 1 (by rw [hl]; decide))]
    try simp (maxSteps:=9^9) only[go_sem]
    repeat refine AI ?_
    try simp (maxSteps:=9^9) only[go_sem,d1]
    all_goals repeat refine AI ?_
    all_goals first|kernel_rfl|omega|rfl
  ·try simp (maxSteps:=9^9) only[go_sem]
   refine CondW_dec (fun hA=>by rw [hl] at hA; exact absurd hA (by decide)) (fun hA=>?_)
   rw [bdec_t (p:=endP l st) fun j hj=>hall j (by omega)]
   try simp (maxSteps:=9^9) only[go_sem]
   all_goals repeat refine AI ?_
   all_goals first|kernel_rfl|omega|rfl
set_option maxHeartbeats 4000000 in
theorem isEnd_fn3 (l:List DT) (hl:l.length=3) (st:List Int) (hst:stP l st):Fn Tryz.prog 36 [⟨.ext .ref tPlanner,some (plD3 l)⟩,⟨tState,(ni st 0,ni st 1,ni st 2)⟩] false [⟨.bool,bdec (endP l st)⟩]:=by
 have v0:=hst.2 0 (by rw [hst.1,hl]; decide)
 unfold stAt at v0
 have v1:=hst.2 1 (by rw [hst.1,hl]; decide)
 unfold stAt at v1
 have v2:=hst.2 2 (by rw [hst.1,hl]; decide)
 unfold stAt at v2
 refine fe Tryz.func36 Tryz.ntmps36 Tryz.results36 fun hwf=>?_
 try simp (maxSteps:=9^9) only[go_sem]
 repeat refine AI ?_
 refine LoopG.intro _ _ _ (fun y:Nat=>match y with|0=>⟨[(3,.ptr 0 0),(10,.sl tTour l),(11,.sc (.int .i64 l.length)),(12,.sc (.int .i64 0))],[(0,.box [.sc (.int .i64 (ni st 0)),.sc (.int .i64 (ni st 1)),.sc (.int .i64 (ni st 2))])]⟩|1=>⟨[(3,.ptr 0 0),(10,.sl tTour l),(11,.sc (.int .i64 l.length)),(12,.sc (.int .i64 1))],[(0,.box [.sc (.int .i64 (ni st 0)),.sc (.int .i64 (ni st 1)),.sc (.int .i64 (ni st 2))])]⟩|2=>⟨[(3,.ptr 0 0),(10,.sl tTour l),(11,.sc (.int .i64 l.length)),(12,.sc (.int .i64 2))],[(0,.box [.sc (.int .i64 (ni st 0)),.sc (.int .i64 (ni st 1)),.sc (.int .i64 (ni st 2))])]⟩|_=>⟨[(3,.ptr 0 0),(10,.sl tTour l),(11,.sc (.int .i64 l.length)),(12,.sc (.int .i64 3))],[(0,.box [.sc (.int .i64 (ni st 0)),.sc (.int .i64 (ni st 1)),.sc (.int .i64 (ni st 2))])]⟩) (fun y=>y<=3/\∀ j,j < y->ni st j=(nth (t:=tTour) l j).2.2.length) (fun y=>3 - y) 0 ?_ ⟨Nat.zero_le _,fun j h=>absurd h (Nat.not_lt_zero _)⟩ ?_
 ·exact WK
 ·rintro y ⟨hy,hall⟩
  obtain rfl|rfl|rfl|rfl:y=0\/y=1\/y=2\/y=3:=by omega
  ·try simp (maxSteps:=9^9) only[go_sem]
   refine CondW_dec (fun hA=>?_) (fun hA=>absurd (by rw [hl]; decide) hA)
   by_cases he:ni st 0=(nth (t:=tTour) l 0).2.2.length
   ·have d1:=decide_eq_true he
    try simp (maxSteps:=9^9) only[go_sem]
    repeat refine AI ?_
    try simp (maxSteps:=9^9) only[go_sem,d1]
    repeat refine AI ?_
    refine LoopK.mk 1 ?_ ⟨by omega,fun j hj=>?_⟩ (by omega)
    ·exact WK
    ·by_cases h:j < 0
     ·exact hall j h
     ·rw [show j=0 by omega]; exact he
   ·have d1:=decide_eq_false he
    rw [bdec_f fun h=>he (h 0 (by rw [hl]; decide))]
    try simp (maxSteps:=9^9) only[go_sem]
    repeat refine AI ?_
    try simp (maxSteps:=9^9) only[go_sem,d1]
    all_goals repeat refine AI ?_
    all_goals first|kernel_rfl|omega|rfl
  ·try simp (maxSteps:=9^9) only[go_sem]
   refine CondW_dec (fun hA=>?_) (fun hA=>absurd (by rw [hl]; decide) hA)
   by_cases he:ni st 1=(nth (t:=tTour) l 1).2.2.length
   ·have d1:=decide_eq_true he
    try simp (maxSteps:=9^9) only[go_sem]
    repeat refine AI ?_
    try simp (maxSteps:=9^9) only[go_sem,d1]
    repeat refine AI ?_
    refine LoopK.mk 2 ?_ ⟨by omega,fun j hj=>?_⟩ (by omega)
    ·exact WK
    ·by_cases h:j < 1
     ·exact hall j h
     ·rw [show j=1 by omega]; exact he
   ·have d1:=decide_eq_false he
    rw [bdec_f fun h=>he (h 1 (by rw [hl]; decide))]
    try simp (maxSteps:=9^9) only[go_sem]
    repeat refine AI ?_
    try simp (maxSteps:=9^9) only[go_sem,d1]
    all_goals repeat refine AI ?_
    all_goals first|kernel_rfl|omega|rfl
  ·try simp (maxSteps:=9^9) only[go_sem]
   refine CondW_dec (fun hA=>?_) (fun hA=>absurd (by rw [hl]; decide) hA)
   by_cases he:ni st 2=(nth (t:=tTour) l 2).2.2.length
   ·have d1:=decide_eq_true he
    try simp (maxSteps:=9^9) only[go_sem]
    repeat refine AI ?_
    try simp (maxSteps:=9^9) only[go_sem,d1]
    repeat refine AI ?_
    refine LoopK.mk 3 ?_ ⟨by omega,fun j hj=>?_⟩ (by omega)
    ·exact WK
    ·by_cases h:j < 2
     ·exact hall j h
     ·rw [show j=2 by omega]; exact he
   ·have d1:=decide_eq_false he
    rw [bdec_f fun h=>he (h 2 (by rw [hl]; decide))]
    try simp (maxSteps:=9^9) only[go_sem]
    repeat refine AI ?_
    try simp (maxSteps:=9^9) only[go_sem,d1]
    all_goals repeat refine AI ?_
    all_goals first|kernel_rfl|omega|rfl
  ·try simp (maxSteps:=9^9) only[go_sem]
   refine CondW_dec (fun hA=>by rw [hl] at hA; exact absurd hA (by decide)) (fun hA=>?_)
   rw [bdec_t (p:=endP l st) fun j hj=>hall j (by omega)]
   try simp (maxSteps:=9^9) only[go_sem]
   all_goals repeat refine AI ?_
   all_goals first|kernel_rfl|omega|rfl
def s3 (st:List Int):tState.den:=(ni st 0,(ni st 1,ni st 2))
noncomputable def plT (l:List DT):tTabs.den:=if l.length=1 then plT1 l else if l.length=2 then plT2 l else plT3 l
theorem plT_1 {l:List DT} (h:l.length=1):plT l=plT1 l:=if_pos h
theorem plT_2 {l:List DT} (h:l.length=2):plT l=plT2 l:=by unfold plT; rw [if_neg (by omega),if_pos h]
theorem plT_3 {l:List DT} (h:l.length=3):plT l=plT3 l:=by unfold plT; rw [if_neg (by omega),if_neg (by omega)]
noncomputable def plD (l:List DT):tPlanner.den:=(l,(plT l,some (0:Int)))
theorem newPlanner_fn (l:List DT) (h:1<=l.length/\l.length<=3):FnNP Tryz.prog 33 [⟨.slice tTour,l⟩] tPl0 (l,plT l):=by
 obtain hl|hl|hl:l.length=1\/l.length=2\/l.length=3:=by omega
 ·rw [plT_1 hl]; exact newPlanner_fn1 l hl
 ·rw [plT_2 hl]; exact newPlanner_fn2 l hl
 ·rw [plT_3 hl]; exact newPlanner_fn3 l hl
theorem s3_1 {l:List DT} {st:List Int} (hst:stP l st) (hl:l.length=1):s3 st=(ni st 0,((0:Int),(0:Int))):=by
 unfold s3; rw [ni_ge (i:=1) (by have:=hst.1; omega),ni_ge (i:=2) (by have:=hst.1; omega)]
theorem s3_2 {l:List DT} {st:List Int} (hst:stP l st) (hl:l.length=2):s3 st=(ni st 0,(ni st 1,(0:Int))):=by
 unfold s3; rw [ni_ge (i:=2) (by have:=hst.1; omega)]
theorem s3_adv {l:List DT} {st:List Int} (hst:stP l st) {k:Nat} (hk:k < l.length):s3 (adv st k)=(if 0=k then ni st 0+1 else ni st 0,(if 1=k then ni st 1+1 else ni st 1,if 2=k then ni st 2+1 else ni st 2)):=by
 have hk':k < st.length:=by rw [hst.1]; exact hk
 unfold s3
 rw [ni_adv hk',ni_adv hk',ni_adv hk']
 congr 1
 ·split
  ·rename_i e; rw [<-e]
  ·rfl
 ·congr 1
  ·split
   ·rename_i e; rw [<-e]
   ·rfl
  ·split
   ·rename_i e; rw [<-e]
   ·rfl
theorem advance_fn (l:List DT) (h:1<=l.length/\l.length<=3) (st:List Int) (har:arP l) (hst:stP l st) (k:Nat) (hk:k < l.length):Fn Tryz.prog 37 [⟨.ext .ref tPlanner,some (plD l)⟩,⟨tState,s3 st⟩,⟨.int,(k:Int)⟩] false [⟨tState,bif bdec (frP l st k) then s3 (adv st k) else s3 st⟩,⟨.bool,bdec (frP l st k)⟩]:=by
 obtain hl|hl|hl:l.length=1\/l.length=2\/l.length=3:=by omega
 ·obtain rfl:k=0:=by omega
  have hz:ni st 1=0/\ni st 2=0:=⟨ni_ge (by have:=hst.1; omega),ni_ge (by have:=hst.1; omega)⟩
  have:=advance_fn10 l hl st har hst
  rw [s3_adv hst hk,s3_1 hst hl,hz.1,hz.2]
  unfold plD
  rw [plT_1 hl]
  exact this
 ·have hz:ni st 2=0:=ni_ge (by have:=hst.1; omega)
  obtain rfl|rfl:k=0\/k=1:=by omega
  ·have:=advance_fn20 l hl st har hst
   rw [s3_adv hst hk,s3_2 hst hl,hz]
   unfold plD
   rw [plT_2 hl]
   exact this
  ·have:=advance_fn21 l hl st har hst
   rw [s3_adv hst hk,s3_2 hst hl,hz]
   unfold plD
   rw [plT_2 hl]
   exact this
 ·obtain rfl|rfl|rfl:k=0\/k=1\/k=2:=by omega
  ·have:=advance_fn30 l hl st har hst
   rw [s3_adv hst hk]
   unfold plD
   rw [plT_3 hl]
   exact this
  ·have:=advance_fn31 l hl st har hst
   rw [s3_adv hst hk]
   unfold plD
   rw [plT_3 hl]
   exact this
  ·have:=advance_fn32 l hl st har hst
   rw [s3_adv hst hk]
   unfold plD
   rw [plT_3 hl]
   exact this
theorem isEnd_fn (l:List DT) (h:1<=l.length/\l.length<=3) (st:List Int) (hst:stP l st):Fn Tryz.prog 36 [⟨.ext .ref tPlanner,some (plD l)⟩,⟨tState,s3 st⟩] false [⟨.bool,bdec (endP l st)⟩]:=by
 unfold plD
 obtain hl|hl|hl:l.length=1\/l.length=2\/l.length=3:=by omega
 ·rw [plT_1 hl,s3_1 hst hl]; exact isEnd_fn1 l hl st hst
 ·rw [plT_2 hl,s3_2 hst hl]; exact isEnd_fn2 l hl st hst
 ·rw [plT_3 hl]; exact isEnd_fn3 l hl st hst
theorem stateOf_fn (l:List DT) (h:1<=l.length/\l.length<=3) (st:List Int) (hst:stP l st):Fn Tryz.prog 43 [⟨.ext .ref tPlanner,some (plD l)⟩,⟨tInts,st⟩] false [⟨tState,s3 st⟩,⟨.bool,true⟩]:=by
 unfold plD
 obtain hl|hl|hl:l.length=1\/l.length=2\/l.length=3:=by omega
 ·rw [plT_1 hl,s3_1 hst hl]; exact stateOf_fn1 l hl st hst
 ·rw [plT_2 hl,s3_2 hst hl]; exact stateOf_fn2 l hl st hst
 ·rw [plT_3 hl]; exact stateOf_fn3 l hl st hst
theorem stateOf_bad (l:List DT) (h:1<=l.length/\l.length<=3) (st:List Int) (hst:¬ stP l st):∃ s:Int × Int × Int,Fn Tryz.prog 43 [⟨.ext .ref tPlanner,some (plD l)⟩,⟨tInts,st⟩] false [⟨tState,s⟩,⟨.bool,false⟩]:=by
 unfold plD
 obtain hl|hl|hl:l.length=1\/l.length=2\/l.length=3:=by omega
 ·rw [plT_1 hl]; exact stateOf_bad1 l hl st hst
 ·rw [plT_2 hl]; exact stateOf_bad2 l hl st hst
 ·rw [plT_3 hl]; exact stateOf_bad3 l hl st hst
theorem fn_finer {P:Program} {f:FuncId} {d d':Dat} {rest:List Dat} {own:Bool} {res:List Dat} (hd:∀ w v fp,DRep w v d' fp->DRep w v d fp) (h:Fn P f (d :: rest) own res):Fn P f (d' :: rest) own res :=
 ⟨h.1,fun w vs S ha=>h.2 w vs S (by
  match vs,ha with
  | v :: vs,⟨⟨fp,h1,h2⟩,h3⟩=>exact ⟨⟨fp,hd w v fp h1,h2⟩,h3⟩)⟩
theorem plFm {P:Program} {f:FuncId} {l:List DT} {rest:List Dat} {own:Bool} {res:List Dat} (h:Fn P f (⟨.ext .ref tPlanner,some (plD l)⟩ :: rest) own res) (m:Nat):Fn P f (⟨.ext .ref (tPlF m),some (l,(plT l,()))⟩ :: rest) own res:=by
 refine fn_finer (fun w v fp hr=>?_) h
 obtain ⟨cs,hp,b,o,cs',fp',e1,e2,hr,hc⟩:=hr
 refine ⟨cs,hp,b,o,cs',fp',e1,e2,?_,hc⟩
 obtain ⟨c1,c2,f1,f2,q1,q2,r1,c3,c4,f3,f4,q3,q4,r2,r3,r4⟩:=hr
 exact ⟨c1,c2,f1,f2,q1,q2,r1,c3,c4,f3,f4,q3,q4,r2,_,r3,rfl,r4⟩
@[go_sem] theorem s3_a (st:List Int):(s3 st).1=ni st 0:=(rfl)
@[go_sem] theorem s3_b (st:List Int):(s3 st).2.1=ni st 1:=(rfl)
@[go_sem] theorem s3_c (st:List Int):(s3 st).2.2=ni st 2:=(rfl)
def canP (l:List DT) (st:List Int):Prop:=∃ o st',schGo l o st=some st'/\endP l st'
theorem canP_end {l:List DT} {st:List Int} (h:endP l st):canP l st:=⟨[],st,rfl,h⟩
theorem canP_step {l:List DT} {st:List Int} {k:Nat} (hk:k < l.length) (hf:frP l st k) (h:canP l (adv st k)):canP l st:=by
 obtain ⟨o,st',h1,h2⟩:=h
 refine ⟨(k:Int) :: o,st',?_,h2⟩
 rw [schGo_t ⟨by omega,by rw [Int.toNat_natCast]; exact hf⟩,Int.toNat_natCast]
 exact h1
theorem canP_inv {l:List DT} {st:List Int} (h:canP l st):endP l st\/∃ k,k < l.length/\frP l st k/\canP l (adv st k):=by
 obtain ⟨o,st',h1,h2⟩:=h
 cases o with
 | nil=>injection h1 with h1; subst h1; exact .inl h2
 | cons z o =>
  by_cases hz:okAt l st z
  ·rw [schGo_t hz] at h1
   exact .inr ⟨z.toNat,by have:=hz.1; omega,hz.2,o,st',h1,h2⟩
  ·rw [schGo_f hz] at h1; cases h1
def remN (l:List DT) (st:List Int):Nat:=((List.range l.length).map fun i=>((nth (t:=tTour) l i).2.2.length - ni st i).toNat).sum
theorem sum_lt {f g:Nat->Nat}:∀ {n k:Nat},k < n->(∀ i,i < n->i ≠ k->f i=g i)->f k < g k->((List.range n).map f).sum < ((List.range n).map g).sum
 | 0,k,h,_,_=>by omega
 | n+1,k,h,he,hl=>by
  rw [List.range_succ,List.map_append,List.map_append,List.sum_append,List.sum_append]
  simp only [List.map_cons,List.map_nil,List.sum_cons,List.sum_nil]
  by_cases hk:k=n
  ·subst hk
   have:(List.range k).map f=(List.range k).map g:=List.map_congr_left fun i hi=>he i (by have:=List.mem_range.1 hi; omega) (by have:=List.mem_range.1 hi; omega)
   rw [this]; omega
  ·have:=sum_lt (n:=n) (k:=k) (f:=f) (g:=g) (by omega) (fun i hi=>he i (by omega)) hl
   have:=he n (by omega) (fun e=>hk e.symm)
   omega
theorem remN_adv {l:List DT} {st:List Int} (hst:stP l st) {k:Nat} (hk:k < l.length) (hf:frP l st k):remN l (adv st k) < remN l st:=by
 have hk':k < st.length:=by rw [hst.1]; exact hk
 have hv:=hst.2 k hk'
 unfold stAt at hv
 have hne:=hf.1
 refine sum_lt hk (fun i hi hik=>?_) ?_
 ·simp only [ni_adv hk',if_neg hik]
 ·simp only [ni_adv hk',if_pos]
  omega
abbrev Memo:=List ((Int × Int × Int) × Bool)
def conP (l:List DT) (g:Memo):Prop:=∀ st b,stP l st->mlk g (s3 st)=some b->b=bdec (canP l st)
section
variable (l:List DT)
noncomputable def cfS (F:List Int->Memo->Memo) (st:List Int) (g:Memo):Nat->Bool × Memo
 | 0=>(bdec (endP l st),g)
 | k+1=>if (bdec (frP l st k) && !(cfS F st g k).1)=true then (bdec (canP l (adv st k)),F (adv st k) (cfS F st g k).2) else cfS F st g k
noncomputable def cfG:Nat->List Int->Memo->Memo
 | 0,_,g=>g
 | n+1,st,g=>match mlk g (s3 st) with
  | some _=>g
  | none=>(s3 st,(cfS l (cfG n) st g l.length).1) :: (cfS l (cfG n) st g l.length).2
end
theorem bdec_i {p q:Prop} (h:p ↔ q):bdec p=bdec q:=by
 by_cases hp:p
 ·rw [bdec_t hp,bdec_t (h.1 hp)]
 ·rw [bdec_f hp,bdec_f fun hq=>hp (h.2 hq)]
theorem cfS_val {l:List DT} {F:List Int->Memo->Memo} {st:List Int} {g:Memo}:∀ k,(cfS l F st g k).1=bdec (endP l st\/∃ j,j < k/\frP l st j/\canP l (adv st j))
 | 0=>bdec_i ⟨.inl,fun h=>h.elim id fun ⟨j,hj,_⟩=>absurd hj (Nat.not_lt_zero _)⟩
 | k+1=>by
  have ih:=cfS_val (l:=l) (F:=F) (st:=st) (g:=g) k
  unfold cfS
  by_cases hp:endP l st\/∃ j,j < k/\frP l st j/\canP l (adv st j)
  ·rw [bdec_t hp] at ih
   rw [ih,Bool.not_true,Bool.and_false,if_neg (by decide),ih,bdec_t (hp.imp id fun ⟨j,hj,h⟩=>⟨j,by omega,h⟩)]
  ·rw [bdec_f hp] at ih
   by_cases hf:frP l st k
   ·rw [ih,bdec_t hf,if_pos (by decide)]
    refine bdec_i ⟨fun h=>.inr ⟨k,by omega,hf,h⟩,fun h=>?_⟩
    rcases h with h|⟨j,hj,h⟩
    ·exact absurd (.inl h) hp
    ·by_cases hjk:j=k
     ·subst hjk; exact h.2
     ·exact absurd (.inr ⟨j,by omega,h⟩) hp
   ·rw [ih,bdec_f hf,if_neg (by decide),ih,bdec_f fun h=>?_]
    rcases h with h|⟨j,hj,h⟩
    ·exact hp (.inl h)
    ·by_cases hjk:j=k
     ·subst hjk; exact hf h.1
     ·exact hp (.inr ⟨j,by omega,h⟩)
theorem cfS_end {l:List DT} {F:List Int->Memo->Memo} {st:List Int} {g:Memo}:(cfS l F st g l.length).1=bdec (canP l st):=by
 rw [cfS_val]
 exact bdec_i ⟨fun h=>h.elim canP_end fun ⟨j,hj,h1,h2⟩=>canP_step hj h1 h2,canP_inv⟩
theorem s3_inj {l:List DT} (h:l.length<=3) {st st':List Int} (h1:stP l st) (h2:stP l st') (e:s3 st=s3 st'):st=st':=by
 have e0:ni st 0=ni st' 0:=congrArg (fun p:tState.den=>p.1) e
 have e1:ni st 1=ni st' 1:=congrArg (fun p:tState.den=>p.2.1) e
 have e2:ni st 2=ni st' 2:=congrArg (fun p:tState.den=>p.2.2) e
 have hl:=h1.1
 have hl':=h2.1
 refine List.ext_getElem (by omega) fun i hi hi'=>?_
 have:ni st i=ni st' i:=by
  obtain rfl|rfl|rfl:i=0\/i=1\/i=2:=by omega
  ·exact e0
  ·exact e1
  ·exact e2
 rw [ni_lt hi,ni_lt hi'] at this
 exact this
theorem cfG_con {l:List DT} (h3:l.length<=3):∀ n st g,stP l st->conP l g->conP l (cfG l n st g)
 | 0,_,_,_,hg=>hg
 | n+1,st,g,hst,hg=>by
  have ih:=cfG_con (l:=l) h3 n
  have hS:∀ k,k<=l.length->conP l (cfS l (cfG l n) st g k).2:=by
   intro k
   induction k with
   | zero=>intro _; exact hg
   | succ k ihk =>
    intro hk
    unfold cfS
    split
    ·rename_i h
     rw [Bool.and_eq_true] at h
     have hf:frP l st k:=by
      by_cases hf:frP l st k
      ·exact hf
      ·rw [bdec_f hf] at h; exact absurd h.1 (by decide)
     exact ih _ _ (stP_adv hst (by omega) hf.1) (ihk (by omega))
    ·exact ihk (by omega)
  unfold cfG
  split
  ·exact hg
  ·intro st' b hst' hb
   rw [mlk_cons] at hb
   split at hb
   ·rename_i e
    injection hb with hb
    rw [<-hb,cfS_end,s3_inj h3 hst hst' e]
   ·exact hS _ (Nat.le_refl _) st' b hst' hb
theorem keyOf_3 {P:Program} {k e:TypeId} (A:WideMaps.ArrKey P k e 3) (he:P.underlying e=some (.int .i64)) (hsz:∃ m,P.types.size=m+1) {s:Int × Int × Int} (hs:I3 s):∃ q,keyOf P k (K3 s)=some q:=by
 have wf:∀ {a:Int},I64 a->(Lit.int .i64 a).wf=true:=fun {a} h=>by
  obtain ⟨h1,h2⟩:=h
  unfold Lit.wf
  rw [Bool.and_eq_true,decide_eq_true_iff,decide_eq_true_iff,show IntKind.min .i64=-9223372036854775808 by decide,show IntKind.max .i64=9223372036854775807 by decide]
  exact ⟨h1,h2⟩
 have w1:=wf hs.1
 have w2:=wf hs.2.1
 have w3:=wf hs.2.2
 have hkt:=A.keyType hsz
 obtain ⟨m,hm⟩:=hsz
 refine ⟨.string (keyBytes [.int .i64 s.1,.int .i64 s.2.1,.int .i64 s.2.2]),?_⟩
 unfold keyOf K3
 simp only [A.hu]
 rw [if_pos (by simp [hkt,Value.formed,A.hu,A.size]),hm]
 unfold Program.keyLits
 simp only [A.hu,Value.cells]
 rw [if_pos (by rw [A.size]; rfl),show List.range 3=[0,1,2] from rfl,List.mapM_cons,List.mapM_cons,List.mapM_cons,List.mapM_nil]
 simp [A.one,Program.keyLits,he,w1,w2,w3]
theorem keyOK:KeyK Tryz.prog 112:=⟨68,4,by kernel_rfl,Maps.Keyed.of_law (deep_law_laid (by kernel_rfl) (m:=3) (by omega) (of_decide_eq_true (by kernel_rfl)) (by kernel_rfl) (by kernel_rfl)),fun s hs=>keyOf_3 (e:=3) ⟨by kernel_rfl,by kernel_rfl,by kernel_rfl,by kernel_rfl⟩ (by kernel_rfl) ⟨_,rfl⟩ hs,fun w=>by kernel_rfl⟩
@[go_sem] theorem keyOK_t:KeyK Tryz.prog 112=True:=eq_true keyOK
theorem tour8 {l:List DT} (h:arP l) {i:Nat} (hi:i < l.length):(nth (t:=tTour) l i).2.2.length<=8:=by
 have:=(tour_parts (h i hi).1).2.2.2.1
 omega
theorem nodup_sub {α:Type} [DecidableEq α]:∀ {L M:List α},L.Nodup->(∀ x ∈ L,x ∈ M)->L.length<=M.length
 | [],_,_,_=>Nat.zero_le _
 | a :: L,M,hn,hs=>by
  have ha:=hs a List.mem_cons_self
  have hn':=List.nodup_cons.1 hn
  have:=nodup_sub (L:=L) (M:=M.erase a) hn'.2 fun x hx=>(List.mem_erase_of_ne (fun e:x=a=>hn'.1 (e ▸ hx))).2 (hs x (List.mem_cons_of_mem _ hx))
  rw [List.length_erase_of_mem ha] at this
  have:0 < M.length:=List.length_pos_of_mem ha
  simp only [List.length_cons]; omega
theorem nodup_same {α:Type} [DecidableEq α] {L M:List α} (h1:L.Nodup) (h2:M.Nodup) (h:∀ x,x ∈ L ↔ x ∈ M):L.length=M.length :=
 Nat.le_antisymm (nodup_sub h1 fun x=>(h x).1) (nodup_sub h2 fun x=>(h x).2)
theorem nodup_ltn {n:Nat} {L:List Nat} (h:L.Nodup) (hl:∀ x ∈ L,x < n):L.length<=n:=by
 have:=nodup_sub h (M:=List.range n) fun x hx=>List.mem_range.2 (hl x hx)
 rwa [List.length_range] at this
theorem sum_setI:∀ {L:List Int} {k:Nat} {v:Int} (h:k < L.length),(L.set k v).sum=L.sum - L[k]+v
 | a :: L,0,v,_=>by simp [List.sum_cons]; omega
 | a :: L,k+1,v,h=>by
  have:=sum_setI (L:=L) (k:=k) (v:=v) (by simpa using h)
  simp [List.sum_cons,this]; omega
theorem nodup_map' {α β:Type} {f:α->β}:∀ {L:List α},L.Nodup->(∀ x ∈ L,∀ y ∈ L,f x=f y->x=y)->(L.map f).Nodup
 | [],_,_=>List.nodup_nil
 | a :: L,h,hi=>by
  have h':=List.nodup_cons.1 h
  rw [List.map_cons,List.nodup_cons]
  refine ⟨fun hm=>?_,nodup_map' h'.2 fun x hx y hy=>hi x (List.mem_cons_of_mem _ hx) y (List.mem_cons_of_mem _ hy)⟩
  obtain ⟨y,hy,e⟩:=List.mem_map.1 hm
  exact h'.1 ((hi y (List.mem_cons_of_mem _ hy) a List.mem_cons_self e) ▸ hy)
theorem sum_adv {st:List Int} {k:Nat} (h:k < st.length):(adv st k).sum=st.sum+1:=by
 unfold adv
 rw [sum_setI h,ni_lt h]; omega
inductive Rea (l:List DT) (s:List Int):List Int->Prop
 | base:Rea l s s
 | step {t:List Int} {k:Nat}:Rea l s t->k < l.length->frP l t k->Rea l s (adv t k)
theorem Rea.val {l:List DT} {s t:List Int} (hs:stP l s) (h:Rea l s t):stP l t:=by
 induction h with
 | base=>exact hs
 | step h hk hf ih=>exact stP_adv ih hk hf.1
def cod (st:List Int):Nat:=(ni st 0).toNat+9 * (ni st 1).toNat+81 * (ni st 2).toNat
theorem ni_8 {l:List DT} (har:arP l) {st:List Int} (hst:stP l st) (i:Nat):0<=ni st i/\ni st i<=8:=by
 by_cases hi:i < st.length
 ·have:=hst.2 i hi
  have h8:=tour8 har (i:=i) (by rw [<-hst.1]; exact hi)
  unfold stAt at this
  omega
 ·rw [ni_ge (by omega)]; omega
theorem sum_24 {l:List DT} (har:arP l) (h3:l.length<=3) {st:List Int} (hst:stP l st):0<=st.sum/\st.sum<=24:=by
 have h0:=ni_8 har hst 0
 have h1:=ni_8 har hst 1
 have h2:=ni_8 har hst 2
 have hl:=hst.1
 match st,hl with
 | [],_=>simp
 | [a],_=>rw [ni_lt (by simp)] at h0; simp at h0 ⊢; omega
 | [a,b],_=>rw [ni_lt (by simp)] at h0 h1; simp at h0 h1 ⊢; omega
 | [a,b,c],_=>rw [ni_lt (by simp)] at h0 h1 h2; simp at h0 h1 h2 ⊢; omega
 | _ :: _ :: _ :: _ :: _,hl=>simp at hl; omega
theorem vals_le {l:List DT} (har:arP l) (h3:l.length<=3) {S:List (List Int)} (hn:S.Nodup) (hv:∀ t ∈ S,stP l t):S.length<=729:=by
 have:=nodup_ltn (n:=729) (L:=S.map cod) (nodup_map' hn fun x hx y hy e=>?_) fun x hx=>?_
 ·rwa [List.length_map] at this
 ·have h0:=ni_8 har (hv x hx) 0
  have h1:=ni_8 har (hv x hx) 1
  have h2:=ni_8 har (hv x hx) 2
  have g0:=ni_8 har (hv y hy) 0
  have g1:=ni_8 har (hv y hy) 1
  have g2:=ni_8 har (hv y hy) 2
  unfold cod at e
  have e0:ni x 0=ni y 0:=by omega
  have e1:ni x 1=ni y 1:=by omega
  have e2:ni x 2=ni y 2:=by omega
  refine s3_inj h3 (hv x hx) (hv y hy) (by unfold s3; rw [e0,e1,e2])
 ·obtain ⟨st,hs,rfl⟩:=List.mem_map.1 hx
  have h0:=ni_8 har (hv st hs) 0
  have h1:=ni_8 har (hv st hs) 1
  have h2:=ni_8 har (hv st hs) 2
  unfold cod
  omega
def RowK (l:List DT) (S:List (List Int)) (st row:List Int):Prop:=∀ k,k < row.length->(frP l st k->0<=ni row k/\S[(ni row k).toNat]? = some (adv st k))/\(¬ frP l st k->ni row k=-1)
structure Gr (l:List DT) (s0:List Int) (S:List (List Int)):Prop where
 ne:S[0]? = some s0
 nd:S.Nodup
 va:∀ t ∈ S,stP l t/\Rea l s0 t
 so:∀ (a b:Nat) (x y:List Int),a<=b->S[a]? = some x->S[b]? = some y->x.sum<=y.sum
theorem Gr.one {l:List DT} {s0:List Int} (h:stP l s0):Gr l s0 [s0] :=
 ⟨rfl,by simp,fun t ht=>by rw [List.mem_singleton.1 ht]; exact ⟨h,.base⟩,fun a b x y hab hx hy=>by
  obtain ⟨h1,e1⟩:=List.getElem?_eq_some_iff.1 hx
  obtain ⟨h2,e2⟩:=List.getElem?_eq_some_iff.1 hy
  simp at h1 h2; subst h1 h2
  simp at e1 e2; subst e1 e2; omega⟩
theorem Gr.push {l:List DT} {s0:List Int} {S:List (List Int)} (h:Gr l s0 S) {st:List Int} (hst:st ∈ S) {k:Nat} (hk:k < l.length) (hf:frP l st k) (hn:adv st k ∉ S) (hm:∀ x ∈ S,x.sum<=st.sum+1):Gr l s0 (S++[adv st k]):=by
 obtain ⟨v1,v2⟩:=h.va st hst
 have hsum:=sum_adv (st:=st) (k:=k) (by rw [v1.1]; exact hk)
 refine ⟨?_,?_,fun t ht=>?_,fun a b x y hab hx hy=>?_⟩
 ·have:=h.ne
  rw [List.getElem?_append_left (List.getElem?_eq_some_iff.1 this).1]; exact this
 ·rw [List.nodup_append]
  exact ⟨h.nd,by simp,fun x hx y hy e=>hn (by rw [List.mem_singleton.1 hy] at e; exact e ▸ hx)⟩
 ·rcases List.mem_append.1 ht with ht|ht
  ·exact h.va t ht
  ·rw [List.mem_singleton.1 ht]
   exact ⟨stP_adv v1 hk hf.1,v2.step hk hf⟩
 ·by_cases hb:b < S.length
  ·rw [List.getElem?_append_left hb] at hy
   rw [List.getElem?_append_left (by omega)] at hx
   exact h.so a b x y hab hx hy
  ·rw [List.getElem?_append_right (by omega)] at hy
   obtain ⟨h2,e2⟩:=List.getElem?_eq_some_iff.1 hy
   simp at h2
   have hb':b=S.length:=by omega
   subst hb'
   simp at e2; subst e2
   by_cases ha:a < S.length
   ·rw [List.getElem?_append_left ha] at hx
    rw [hsum]
    exact hm x (List.mem_of_getElem? hx)
   ·have:a=S.length:=by omega
    subst this
    simp at hx; subst hx; omega
theorem RowK.more {l:List DT} {S T:List (List Int)} {st row:List Int} (h:RowK l S st row):RowK l (S++T) st row:=fun k hk=>⟨fun hf=>by
  obtain ⟨h1,h2⟩:=(h k hk).1 hf
  exact ⟨h1,by rw [List.getElem?_append_left (List.getElem?_eq_some_iff.1 h2).1]; exact h2⟩,(h k hk).2⟩
theorem ni_app {row:List Int} {v:Int} {k:Nat}:ni (row++[v]) k=if k < row.length then ni row k else if k=row.length then v else 0:=by
 by_cases h:k < row.length
 ·rw [if_pos h,ni_lt (by simp; omega),ni_lt h,List.getElem_append_left h]
 ·rw [if_neg h]
  by_cases e:k=row.length
  ·subst e; rw [if_pos rfl,ni_lt (by simp)]; simp
  ·rw [if_neg e,ni_ge (by simp; omega)]
theorem RowK.snoc {l:List DT} {S:List (List Int)} {st row:List Int} {v:Int} (h:RowK l S st row) (hv:(frP l st row.length->0<=v/\S[v.toNat]? = some (adv st row.length))/\(¬ frP l st row.length->v=-1)):RowK l S st (row++[v]):=fun k hk=>by
 rw [ni_app]
 by_cases h1:k < row.length
 ·rw [if_pos h1]; exact h k h1
 ·have:k=row.length:=by simp at hk; omega
  subst this
  rw [if_neg h1,if_pos rfl]; exact hv
structure GrI (l:List DT) (s0:List Int) (S N:List (List Int)):Prop where
 g:Gr l s0 S
 len:N.length<=S.length
 row:∀ (j:Nat) (row st:List Int),N[j]? = some row->S[j]? = some st->row.length=l.length/\RowK l S st row
 top:∀ x ∈ S,∀ st,S[N.length]? = some st->x.sum<=st.sum+1
theorem GrI.one {l:List DT} {s0:List Int} (h:stP l s0):GrI l s0 [s0] [] :=
 ⟨.one h,Nat.zero_le _,fun j row st h=>by simp at h,fun x hx st hst=>by
  simp at hst; subst hst; rw [List.mem_singleton.1 hx]; omega⟩
theorem GrI.push {l:List DT} {s0:List Int} {S N:List (List Int)} (h:GrI l s0 S N) {st:List Int} (hst:S[N.length]? = some st) {k:Nat} (hk:k < l.length) (hf:frP l st k) (hn:adv st k ∉ S):GrI l s0 (S++[adv st k]) N:=by
 have hm:=List.mem_of_getElem? hst
 have hlt:=(List.getElem?_eq_some_iff.1 hst).1
 have hsum:=sum_adv (st:=st) (k:=k) (by rw [(h.g.va st hm).1.1]; exact hk)
 refine ⟨h.g.push hm hk hf hn fun x hx=>h.top x hx st hst,by simp; omega,fun j row st' h1 h2=>?_,fun x hx st' hst'=>?_⟩
 ·have hj:=(List.getElem?_eq_some_iff.1 h1).1
  rw [List.getElem?_append_left (by omega)] at h2
  obtain ⟨r1,r2⟩:=h.row j row st' h1 h2
  exact ⟨r1,r2.more⟩
 ·rw [List.getElem?_append_left hlt,hst] at hst'
  injection hst' with hst'; subst hst'
  rcases List.mem_append.1 hx with hx|hx
  ·exact h.top x hx st hst
  ·rw [List.mem_singleton.1 hx,hsum]; omega
theorem GrI.next {l:List DT} {s0:List Int} {S N:List (List Int)} (h:GrI l s0 S N) {st row:List Int} (hst:S[N.length]? = some st) (h1:row.length=l.length) (h2:RowK l S st row):GrI l s0 S (N++[row]):=by
 have hlt:=(List.getElem?_eq_some_iff.1 hst).1
 refine ⟨h.g,by simp; omega,fun j row' st' g1 g2=>?_,fun x hx st' hst'=>?_⟩
 ·by_cases hj:j < N.length
  ·rw [List.getElem?_append_left hj] at g1
   exact h.row j row' st' g1 g2
  ·rw [List.getElem?_append_right (by omega)] at g1
   obtain ⟨h4,e4⟩:=List.getElem?_eq_some_iff.1 g1
   simp at h4
   have:j=N.length:=by omega
   subst this
   simp at e4; subst e4
   rw [hst] at g2; injection g2 with g2; subst g2
   exact ⟨h1,h2⟩
 ·have:=h.top x hx st hst
  simp at hst'
  have:=h.g.so N.length (N.length+1) st st' (by omega) hst hst'
  omega
theorem GrI.mem {l:List DT} {s0:List Int} {S N:List (List Int)} (h:GrI l s0 S N) (he:N.length=S.length) (t:List Int):t ∈ S ↔ Rea l s0 t:=by
 refine ⟨fun ht=>(h.g.va t ht).2,fun ht=>?_⟩
 induction ht with
 | base=>exact List.mem_of_getElem? h.g.ne
 | @step t k _ hk hf ih =>
  obtain ⟨j,hj,rfl⟩:=List.getElem_of_mem ih
  obtain ⟨r1,r2⟩:=h.row j (N[j]'(by omega)) S[j] (List.getElem?_eq_getElem (by omega)) (List.getElem?_eq_getElem hj)
  exact List.mem_of_getElem? ((r2 k (by omega)).1 hf).2
theorem GrI.later {l:List DT} {s0:List Int} {S N:List (List Int)} (h:GrI l s0 S N) {j m k:Nat} {st:List Int} (hst:S[j]? = some st) (hk:k < l.length) (hm:S[m]? = some (adv st k)):j < m:=by
 have hs:=sum_adv (st:=st) (k:=k) (by rw [(h.g.va st (List.mem_of_getElem? hst)).1.1]; exact hk)
 by_cases hjm:j < m
 ·exact hjm
 ·have:=h.g.so m j _ _ (by omega) hm hst
  omega
def okF (l:List DT) (st:List Int) (k:Nat):Prop:=frP l st k/\canP l (adv st k)
noncomputable def coo (l:List DT):Nat->List Int->List Int
 | 0,_=>[]
 | n+1,st=>bif bdec (endP l st) then [] else match (List.range l.length).find? (fun k=>bdec (okF l st k)) with
  | some k=>(k:Int) :: coo l n (adv st k)
  | none=>[]
theorem coo_s (l:List DT) (n:Nat) (st:List Int):coo l (n+1) st=bif bdec (endP l st) then [] else match (List.range l.length).find? (fun k=>bdec (okF l st k)) with
  | some k=>(k:Int) :: coo l n (adv st k)
  | none=>[]:=by rw [coo]
theorem coo_end {l:List DT} {st:List Int} (h:endP l st) (n:Nat):coo l n st=[]:=by
 cases n with
 | zero=>rfl
 | succ n=>rw [coo_s,bdec_t h]; rfl
theorem coo_step {l:List DT} {st:List Int} {n k:Nat} (h:¬ endP l st) (hk:k < l.length) (hf:okF l st k) (hn:∀ j,j < k->¬ okF l st j):coo l (n+1) st=(k:Int) :: coo l n (adv st k):=by
 have:(List.range l.length).find? (fun k=>bdec (okF l st k))=some k:=by
  rw [List.find?_range_eq_some]
  exact ⟨bdec_t hf,List.mem_range.2 hk,fun j hj=>by rw [bdec_f (hn j hj)]; rfl⟩
 rw [coo_s,this,bdec_f h]
 rfl
theorem okF_ex {l:List DT} {st:List Int} (h:canP l st) (he:¬ endP l st):∃ k,k < l.length/\okF l st k:=(canP_inv h).elim (fun h=>absurd h he) fun ⟨k,h1,h2,h3⟩=>⟨k,h1,h2,h3⟩
def CoI (l:List DT) (s0 st out:List Int):Prop:=stP l st/\canP l st/\st.sum=s0.sum+out.length/\∃ m,remN l st<=m/\out++coo l m st=coo l (remN l s0) s0
theorem CoI.start {l:List DT} {s0:List Int} (h:stP l s0) (hc:canP l s0):CoI l s0 s0 []:=⟨h,hc,by simp,_,Nat.le_refl _,rfl⟩
theorem CoI.step {l:List DT} {s0 st out:List Int} (h:CoI l s0 st out) {k:Nat} (he:¬ endP l st) (hk:k < l.length) (hf:okF l st k) (hn:∀ j,j < k->¬ okF l st j):CoI l s0 (adv st k) (out++[(k:Int)]):=by
 obtain ⟨h1,h2,hsm,m,h3,h4⟩:=h
 have hr:=remN_adv h1 hk hf.1
 have hsa:=sum_adv (st:=st) (k:=k) (by rw [h1.1]; exact hk)
 obtain ⟨m,rfl⟩:∃ m',m=m'+1:=⟨m - 1,by omega⟩
 rw [coo_step he hk hf hn] at h4
 exact ⟨stP_adv h1 hk hf.1.1,hf.2,by rw [hsa,hsm]; simp; omega,m,by omega,by rw [<-h4]; simp⟩
theorem CoI.fin {l:List DT} {s0 st out:List Int} (h:CoI l s0 st out) (he:endP l st):out=coo l (remN l s0) s0:=by
 obtain ⟨_,_,_,m,_,h4⟩:=h
 rw [coo_end he] at h4
 simpa using h4
theorem Rea.trans {l:List DT} {s t u:List Int} (h:Rea l s t) (g:Rea l t u):Rea l s u:=by
 induction g with
 | base=>exact h
 | step _ hk hf ih=>exact ih.step hk hf
theorem sch_rea {l:List DT}:∀ {o s t:List Int},schGo l o s=some t->Rea l s t
 | [],s,t,h=>by injection h with h; subst h; exact .base
 | k :: o,s,t,h=>by
  by_cases hk:okAt l s k
  ·rw [schGo_t hk] at h
   exact (Rea.base.step (by have:=hk.1; omega) hk.2).trans (sch_rea h)
  ·rw [schGo_f hk] at h; cases h
theorem sch_sum {l:List DT}:∀ {o s t:List Int},stP l s->schGo l o s=some t->t.sum=s.sum+o.length
 | [],s,t,_,h=>by injection h with h; subst h; simp
 | k :: o,s,t,hs,h=>by
  by_cases hk:okAt l s k
  ·rw [schGo_t hk] at h
   have hk':k.toNat < l.length:=by have:=hk.1; omega
   have:=sch_sum (stP_adv hs hk' hk.2.1) h
   rw [sum_adv (by rw [hs.1]; exact hk')] at this
   simp only [List.length_cons]; omega
  ·rw [schGo_f hk] at h; cases h
theorem sch_pre {l:List DT}:∀ {o s t:List Int},stP l s->schGo l o s=some t->∀ i,i<=o.length->∃ u,Rea l s u/\u.sum=s.sum+i
 | _,s,t,_,_,0,_=>⟨s,.base,by simp⟩
 | [],s,t,_,_,i+1,hi=>by simp at hi
 | k :: o,s,t,hs,h,i+1,hi=>by
  by_cases hk:okAt l s k
  ·rw [schGo_t hk] at h
   have hk':k.toNat < l.length:=by have:=hk.1; omega
   obtain ⟨u,h1,h2⟩:=sch_pre (stP_adv hs hk' hk.2.1) h i (by simpa using hi)
   rw [sum_adv (by rw [hs.1]; exact hk')] at h2
   exact ⟨u,(Rea.base.step hk' hk.2).trans h1,by omega⟩
  ·rw [schGo_f hk] at h; cases h
theorem coo_sch {l:List DT}:∀ (m:Nat) {s:List Int},stP l s->canP l s->remN l s<=m->∃ t,schGo l (coo l m s) s=some t/\endP l t:=by
 intro m
 induction m with
 | zero =>
  intro s hs hc hm
  by_cases he:endP l s
  ·exact ⟨s,by rw [coo_end he]; rfl,he⟩
  ·obtain ⟨k,hk,hf⟩:=okF_ex hc he
   have:=remN_adv hs hk hf.1
   omega
 | succ m ih =>
  intro s hs hc hm
  by_cases he:endP l s
  ·exact ⟨s,by rw [coo_end he]; rfl,he⟩
  ·obtain ⟨k0,hk0,hf0⟩:=okF_ex hc he
   obtain ⟨k,hk,hf,hn⟩:∃ k,k < l.length/\okF l s k/\∀ j,j < k->¬ okF l s j:=by
    cases hq:(List.range l.length).find? (fun k=>bdec (okF l s k)) with
    | none =>
     have:=List.find?_eq_none.1 hq k0 (List.mem_range.2 hk0)
     rw [bdec_t hf0] at this
     exact absurd rfl this
    | some k =>
     rw [List.find?_range_eq_some] at hq
     obtain ⟨h1,h2,h3⟩:=hq
     refine ⟨k,List.mem_range.1 h2,?_,fun j hj hf=>?_⟩
     ·by_cases hf:okF l s k
      ·exact hf
      ·rw [bdec_f hf] at h1; cases h1
     ·have:=h3 j hj
      rw [bdec_t hf] at this
      cases this
   have hr:=remN_adv hs hk hf.1
   obtain ⟨t,h1,h2⟩:=ih (stP_adv hs hk hf.1.1) hf.2 (by omega)
   refine ⟨t,?_,h2⟩
   rw [coo_step he hk hf hn,schGo_t ⟨by omega,by rw [Int.toNat_natCast]; exact hf.1⟩,Int.toNat_natCast]
   exact h1
def stk (l:List DT) (st:List Int):Prop:=¬ endP l st/\∀ k,k < l.length->¬ frP l st k
theorem free_can {l:List DT} {s:List Int} (hs:stP l s) (h:∀ t,Rea l s t->¬ stk l t):canP l s:=by
 have:∀ (n:Nat) (t:List Int),remN l t<=n->Rea l s t->canP l t:=by
  intro n
  induction n with
  | zero =>
   intro t hn ht
   by_cases he:endP l t
   ·exact canP_end he
   ·have:=h t ht
    by_cases hk:∃ k,k < l.length/\frP l t k
    ·obtain ⟨k,h1,h2⟩:=hk
     have:=remN_adv (ht.val hs) h1 h2
     omega
    ·exact absurd ⟨he,fun k h1 h2=>hk ⟨k,h1,h2⟩⟩ this
  | succ n ih =>
   intro t hn ht
   by_cases he:endP l t
   ·exact canP_end he
   ·have:=h t ht
    by_cases hk:∃ k,k < l.length/\frP l t k
    ·obtain ⟨k,h1,h2⟩:=hk
     have:=remN_adv (ht.val hs) h1 h2
     exact canP_step h1 h2 (ih _ (by omega) (ht.step h1 h2))
    ·exact absurd ⟨he,fun k h1 h2=>hk ⟨k,h1,h2⟩⟩ this
 exact this _ s (Nat.le_refl _) .base
def allS:List Nat->List (List Int)
 | []=>[[]]
 | n :: ns=>(List.range (n+1)).flatMap fun (a:Nat)=>(allS ns).map fun r=>(a:Int) :: r
def prodS:List Nat->Nat
 | []=>1
 | n :: ns=>(n+1) * prodS ns
theorem allS_len:∀ ns,(allS ns).length=prodS ns
 | []=>rfl
 | n :: ns=>by
  unfold allS prodS
  rw [List.length_flatMap]
  simp only [List.length_map,allS_len ns]
  rw [List.map_const',List.sum_replicate_nat]
  simp
theorem allS_mem:∀ (ns:List Nat) (st:List Int),st.length=ns.length->(∀ i,i < st.length->0<=ni st i/\ni st i<=(ns.getD i 0:Nat))->st ∈ allS ns
 | [],st,h,_=>by
  have:st=[]:=List.eq_nil_of_length_eq_zero h
  subst this; simp [allS]
 | n :: ns,[],h,_=>by simp at h
 | n :: ns,a :: st,h,hv=>by
  have h0:=hv 0 (by simp)
  rw [ni_lt (by simp)] at h0
  simp at h0
  unfold allS
  rw [List.mem_flatMap]
  have hlt:a.toNat < n+1:=by omega
  refine ⟨a.toNat,List.mem_range.2 hlt,List.mem_map.2 ⟨st,allS_mem ns st (by simpa using h) fun i hi=>?_,by rw [show ((a.toNat:Int))=a by omega]⟩⟩
  have:=hv (i+1) (by simp; omega)
  rw [ni_lt (by simp; omega)] at this
  rw [ni_lt hi]
  simpa using this
noncomputable def cntS (l:List DT) (s:List Int):Nat:=@dite Nat (∃ S:List (List Int),S.Nodup/\∀ t,t ∈ S ↔ Rea l s t) (Classical.propDecidable _) (fun h=>(Classical.choose h).length) fun _=>0
theorem cntS_eq {l:List DT} {s:List Int} {S:List (List Int)} (h1:S.Nodup) (h2:∀ t,t ∈ S ↔ Rea l s t):S.length=cntS l s:=by
 have h:∃ S:List (List Int),S.Nodup/\∀ t,t ∈ S ↔ Rea l s t:=⟨S,h1,h2⟩
 unfold cntS
 rw [dif_pos h]
 obtain ⟨g1,g2⟩:=Classical.choose_spec h
 exact nodup_same h1 g1 fun t=>(h2 t).trans (g2 t).symm
noncomputable def cntD (l:List DT) (s:List Int):Nat:=@dite Nat (∃ S:List (List Int),S.Nodup/\∀ t,t ∈ S ↔ Rea l s t) (Classical.propDecidable _) (fun h=>((Classical.choose h).filter fun t=>bdec (stk l t)).length) fun _=>0
theorem cntD_eq {l:List DT} {s:List Int} {S:List (List Int)} (h1:S.Nodup) (h2:∀ t,t ∈ S ↔ Rea l s t):(S.filter fun t=>bdec (stk l t)).length=cntD l s:=by
 have h:∃ S:List (List Int),S.Nodup/\∀ t,t ∈ S ↔ Rea l s t:=⟨S,h1,h2⟩
 unfold cntD
 rw [dif_pos h]
 obtain ⟨g1,g2⟩:=Classical.choose_spec h
 refine nodup_same (h1.filter _) (g1.filter _) fun t=>?_
 rw [List.mem_filter,List.mem_filter,h2,g2]
theorem lt_of_lev {l:List DT} {s:List Int} {S:List (List Int)} (h2:∀ t,t ∈ S ↔ Rea l s t) {n:Nat} (h:∀ i,i<=n->∃ u,Rea l s u/\u.sum=s.sum+(i:Nat)):n+1<=S.length:=by
 have:=nodup_sub (L:=(List.range (n+1)).map fun (i:Nat)=>s.sum+(i:Int)) (M:=S.map List.sum) (nodup_map' List.nodup_range fun x _ y _ e=>by omega) fun x hx=>by
  obtain ⟨i,hi,rfl⟩:=List.mem_map.1 hx
  obtain ⟨u,h3,h4⟩:=h i (by have:=List.mem_range.1 hi; omega)
  exact List.mem_map.2 ⟨u,(h2 u).2 h3,h4⟩
 simpa using this
theorem cfS_con {l:List DT} (h3:l.length<=3) {n:Nat} {st:List Int} {g:Memo} (hst:stP l st) (hg:conP l g):∀ k,k<=l.length->conP l (cfS l (cfG l n) st g k).2:=by
 intro k
 induction k with
 | zero=>intro _; exact hg
 | succ k ihk =>
  intro hk
  unfold cfS
  split
  ·rename_i h
   rw [Bool.and_eq_true] at h
   have hf:frP l st k:=by
    by_cases hf:frP l st k
    ·exact hf
    ·rw [bdec_f hf] at h; exact absurd h.1 (by decide)
   exact cfG_con h3 n _ _ (stP_adv hst (by omega) hf.1) (ihk (by omega))
  ·exact ihk (by omega)
theorem cfS_s {l:List DT} {F:List Int->Memo->Memo} {st:List Int} {g:Memo} {k:Nat} {b:Bool} {g':Memo} (h:cfS l F st g k=(b,g')):cfS l F st g (k+1)=if (bdec (frP l st k) && !b)=true then (bdec (canP l (adv st k)),F (adv st k) g') else (b,g'):=by
 rw [cfS,h]
set_option maxHeartbeats 4000000 in
theorem canFinish_fn (l:List DT) (h:1<=l.length/\l.length<=3) (har:arP l):∀ (n:Nat) (st:List Int) (g:Memo),stP l st->conP l g->remN l st < n->FnW Tryz.prog 44 (fun m=>[⟨.ext .ref (tPlF m),some (l,(plT l,()))⟩,⟨tState,s3 st⟩]) (MapI g) (MapI (cfG l n st g)) [⟨.bool,bdec (canP l st)⟩]
 | 0,st,g,hst,hg,hn=>by omega
 | n+1,st,g,hst,hg,hn=>by
  have hs3:s3 st=(ni st 0,ni st 1,ni st 2):=rfl
  cases hm:mlk g (s3 st) with
  | some b =>
   have hm':mlk g (ni st 0,ni st 1,ni st 2)=some b:=hm
   have hb:=hg st b hst hm
   rw [show cfG l (n+1) st g=g by unfold cfG; rw [hm],<-hb]
   refine fnM_enter tabOK mixes Tryz.func44 rfl rfl _ Tryz.ntmps44 _ Tryz.results44 (by rfl) (by simp) fun m hwf=>?_
   try simp (maxSteps:=9^9) only[go_sem,hm']
   all_goals repeat refine AI ?_
   all_goals first|kernel_rfl|omega|rfl
  | none =>
   have hm':mlk g (ni st 0,ni st 1,ni st 2)=none:=hm
   have hcf:cfG l (n+1) st g=(s3 st,bdec (canP l st)) :: (cfS l (cfG l n) st g l.length).2:=by
    rw [cfG,hm,<-cfS_end (F:=cfG l n) (g:=g)]
   rw [hcf]
   have c1:=fun m=>plFm (isEnd_fn l h st hst) m
   refine fnM_enter tabOK mixes Tryz.func44 rfl rfl _ Tryz.ntmps44 _ Tryz.results44 (by rfl) (by simp) fun m hwf=>?_
   try simp (maxSteps:=9^9) only[go_sem,hm']
   repeat refine AI ?_
   repeat refine AI ?_
   refine CallW.h 0 (c1) ?_
   try simp (maxSteps:=9^9) only[go_sem]
   repeat refine AI ?_
   refine LoopG.intro _ _ _ (fun y:Nat × Bool × Memo=>⟨[(0,.ref (tPlF m) (l,(plT l,())) 0),(3,.ptr 1 0),(7,.sc (.bool y.2.1)),(29,.sc (.int .i64 l.length)),(30,.sc (.int .i64 y.1))],[(0,.ob (some (.map (some m))) 0 (.map y.2.2)),(1,.box (cel tState (s3 st)))]⟩) (fun y=>y.1<=l.length/\cfS l (cfG l n) st g y.1=y.2) (fun y=>l.length - y.1) (0,bdec (endP l st),g) ?_ ⟨Nat.zero_le _,rfl⟩ ?_
   ·exact WK
   ·rintro ⟨k,b,g'⟩ ⟨hk,hy⟩
    dsimp only at hk hy
    try simp (maxSteps:=9^9) only[go_sem]
    refine CondW_dec (fun hA=>?_) (fun hA=>?_)
    ·have hlt:k < l.length:=by omega
     have c2:=fun m=>plFm (advance_fn l h st har hst k hlt) m
     have hys:=cfS_s hy
     by_cases hf:frP l st k
     ·rw [bdec_t hf] at hys
      simp only [bdec_t hf,cond_true] at c2
      cases b with
      | true =>
       try simp (maxSteps:=9^9) only[go_sem]
       repeat refine AI ?_
       repeat refine AI ?_
       refine CallW.h 0 (c2) ?_
       try simp (maxSteps:=9^9) only[go_sem]
       repeat refine AI ?_
       refine LoopK.mk (k+1,true,g') ?_ ⟨by omega,hys⟩ (by dsimp only; omega)
       exact WK
      | false =>
       have hcon:=cfS_con h.2 (n:=n) hst hg k hk
       rw [hy] at hcon
       have hr:=remN_adv hst hlt hf
       have c3:=canFinish_fn l h har n (adv st k) g' (stP_adv hst hlt hf.1) hcon (by omega)
       try simp (maxSteps:=9^9) only[go_sem]
       repeat refine AI ?_
       repeat refine AI ?_
       refine CallW.h 0 (c2) ?_
       try simp (maxSteps:=9^9) only[go_sem]
       repeat refine AI ?_
       repeat refine AI ?_
       refine CallW.mp 0 (c3) ?_
       try simp (maxSteps:=9^9) only[go_sem]
       repeat refine AI ?_
       refine LoopK.mk (k+1,bdec (canP l (adv st k)),cfG l n (adv st k) g') ?_ ⟨by omega,hys⟩ (by dsimp only; omega)
       exact WK
     ·rw [bdec_f hf] at hys
      simp only [bdec_f hf,cond_false] at c2
      try simp (maxSteps:=9^9) only[go_sem]
      repeat refine AI ?_
      repeat refine AI ?_
      refine CallW.h 0 (c2) ?_
      try simp (maxSteps:=9^9) only[go_sem]
      repeat refine AI ?_
      refine LoopK.mk (k+1,b,g') ?_ ⟨by omega,hys⟩ (by dsimp only; omega)
      exact WK
    ·obtain rfl:k=l.length:=by omega
     have e1:(cfS l (cfG l n) st g l.length).2=g':=by rw [hy]
     have e2:bdec (canP l st)=b:=by rw [<-cfS_end (F:=cfG l n) (g:=g),hy]
     rw [e1,e2]
     try simp (maxSteps:=9^9) only[go_sem]
     all_goals repeat refine AI ?_
     all_goals first|kernel_rfl|omega|rfl
def finP (l:List DT) (st:List Int):Prop:=arB l=true/\stP l st/\canP l st
theorem conP_nil {l:List DT}:conP l []:=fun _ _ _ h=>by cases h
set_option maxHeartbeats 4000000 in
theorem CanFinishI_fn (l:List DT) (st:List Int):Fn Tryz.prog 13 [⟨.slice tTour,l⟩,⟨tInts,st⟩] false [⟨.bool,bdec (finP l st)⟩]:=by
 have c0:=AreToursI_fn l
 cases ha:arB l<;>rw [ha] at c0
 ·rw [bdec_f fun h=>by have:=h.1; rw [ha] at this; cases this]
  refine fe Tryz.func13 Tryz.ntmps13 Tryz.results13 fun hwf=>?_
  try simp (maxSteps:=9^9) only[go_sem]
  repeat refine AI ?_
  refine cw c0 ?_
  try simp (maxSteps:=9^9) only[go_sem]
  all_goals repeat refine AI ?_
  all_goals first|kernel_rfl|omega|rfl
 ·have har:=arB_p ha
  have c2:=newPlanner_fn l har.1
  by_cases hst:stP l st
  ·have c3:=fun m=>plFm (stateOf_fn l har.1 st hst) m
   have c4:=canFinish_fn l har.1 har.2 (remN l st+1) st [] hst conP_nil (by omega)
   rw [show bdec (finP l st)=bdec (canP l st) from bdec_i ⟨fun h=>h.2.2,fun h=>⟨ha,hst,h⟩⟩]
   refine fe Tryz.func13 Tryz.ntmps13 Tryz.results13 fun hwf=>?_
   try simp (maxSteps:=9^9) only[go_sem]
   repeat refine AI ?_
   refine cw c0 ?_
   try simp (maxSteps:=9^9) only[go_sem]
   repeat refine AI ?_
   repeat refine AI ?_
   refine CallW.np (c2) ?_
   try simp (maxSteps:=9^9) only[go_sem]
   repeat refine AI ?_
   refine CallW.h 1 (c3) ?_
   try simp (maxSteps:=9^9) only[go_sem]
   repeat refine AI ?_
   repeat refine AI ?_
   refine CallW.mp 1 (c4) ?_
   try simp (maxSteps:=9^9) only[go_sem]
   all_goals repeat refine AI ?_
   all_goals first|kernel_rfl|omega|rfl
  ·obtain ⟨s,c3'⟩:=stateOf_bad l har.1 st hst
   have c3:=fun m=>plFm c3' m
   rw [bdec_f fun h=>hst h.2.1]
   refine fe Tryz.func13 Tryz.ntmps13 Tryz.results13 fun hwf=>?_
   try simp (maxSteps:=9^9) only[go_sem]
   repeat refine AI ?_
   refine cw c0 ?_
   try simp (maxSteps:=9^9) only[go_sem]
   repeat refine AI ?_
   repeat refine AI ?_
   refine CallW.np (c2) ?_
   try simp (maxSteps:=9^9) only[go_sem]
   repeat refine AI ?_
   refine CallW.h 1 (c3) ?_
   try simp (maxSteps:=9^9) only[go_sem]
   all_goals repeat refine AI ?_
   all_goals first|kernel_rfl|omega|rfl
abbrev st0 (l:List DT):List Int:=List.replicate l.length 0
theorem s3_zero (l:List DT):s3 (st0 l)=((0:Int),(0:Int),(0:Int)):=by
 have:∀ i,ni (st0 l) i=0:=fun i=>by
  by_cases h:i < (st0 l).length
  ·rw [ni_lt h]; simp
  ·exact ni_ge (by omega)
 unfold s3
 rw [this,this,this]
def crdP (l:List DT):Prop:=arB l=true/\canP l (st0 l)
noncomputable def crdL (l:List DT):List Int:=if bdec (crdP l)=true then coo l (remN l (st0 l)) (st0 l) else []
set_option maxHeartbeats 4000000 in
theorem CoordinateI_fn (l:List DT):FnT Tryz.prog 14 [⟨.slice tTour,l⟩] [⟨tInts,crdL l⟩,⟨.bool,bdec (crdP l)⟩]:=by
 have c0:=AreToursI_fn l
 cases ha:arB l<;>rw [ha] at c0
 ·have e:bdec (crdP l)=false:=bdec_f fun h=>by have:=h.1; rw [ha] at this; cases this
  rw [show crdL l=[] by unfold crdL; rw [e]; rfl,e]
  refine fnT_enter tabOK mixes Tryz.func14 rfl rfl _ Tryz.ntmps14 _ Tryz.results14 (by simp) fun hwf=>?_
  try simp (maxSteps:=9^9) only[go_sem]
  repeat refine AI ?_
  refine cw c0 ?_
  try simp (maxSteps:=9^9) only[go_sem]
  all_goals repeat refine AI ?_
  all_goals first|kernel_rfl|omega|rfl
 ·have har:=arB_p ha
  have c2:=newPlanner_fn l har.1
  have hs0:=stP_zero l
  have c4:=canFinish_fn l har.1 har.2 (remN l (st0 l)+1) (st0 l) [] hs0 conP_nil (by omega)
  rw [s3_zero] at c4
  by_cases hc:canP l (st0 l)
  rotate_left
  ·have e:bdec (crdP l)=false:=bdec_f fun h=>hc h.2
   rw [show crdL l=[] by unfold crdL; rw [e]; rfl,e]
   rw [bdec_f hc] at c4
   refine fnT_enter tabOK mixes Tryz.func14 rfl rfl _ Tryz.ntmps14 _ Tryz.results14 (by simp) fun hwf=>?_
   try simp (maxSteps:=9^9) only[go_sem]
   repeat refine AI ?_
   refine cw c0 ?_
   try simp (maxSteps:=9^9) only[go_sem]
   repeat refine AI ?_
   repeat refine AI ?_
   refine CallW.np (c2) ?_
   try simp (maxSteps:=9^9) only[go_sem]
   repeat refine AI ?_
   refine CallW.mp 1 (c4) ?_
   try simp (maxSteps:=9^9) only[go_sem]
   all_goals repeat refine AI ?_
   all_goals first|kernel_rfl|omega|rfl
  ·have e:bdec (crdP l)=true:=bdec_t ⟨ha,hc⟩
   rw [show crdL l=coo l (remN l (st0 l)) (st0 l) by unfold crdL; rw [e]; rfl,e]
   rw [bdec_t hc] at c4
   have z0:∀ i,ni (List.replicate l.length 0) i=0:=fun i=>by
    by_cases h:i < (List.replicate l.length (0:Int)).length
    ·rw [ni_lt h]; simp
    ·exact ni_ge (by omega)
   have hg0:=cfG_con har.1.2 (remN l (st0 l)+1) (st0 l) [] hs0 conP_nil
   refine fnT_enter tabOK mixes Tryz.func14 rfl rfl _ Tryz.ntmps14 _ Tryz.results14 (by simp) fun hwf=>?_
   try simp (maxSteps:=9^9) only[go_sem]
   repeat refine AI ?_
   refine cw c0 ?_
   try simp (maxSteps:=9^9) only[go_sem]
   repeat refine AI ?_
   repeat refine AI ?_
   refine CallW.np (c2) ?_
   try simp (maxSteps:=9^9) only[go_sem]
   repeat refine AI ?_
   refine CallW.mp 1 (c4) ?_
   try simp (maxSteps:=9^9) only[go_sem]
   repeat refine AI ?_
   refine LoopG.intro _ _ _ (fun y:List Int × List Int × Memo=>⟨[(0,.sl tTour l),(4,.ptr 0 0),(5,.ptr 2 0),(6,.row 3 0)],[(0,.box (cel tPl0 (l,plT l)++[.row 1 0])),(1,.ob none 0 (.map y.2.2)),(2,.box (cel tState (s3 y.1))),(3,.row 3 .int 0 true y.2.1)]⟩) (fun y=>CoI l (st0 l) y.1 y.2.1/\conP l y.2.2) (fun y=>remN l y.1) (st0 l,[],cfG l (remN l (st0 l)+1) (st0 l) []) ?_ ⟨CoI.start hs0 hc,hg0⟩ ?_
   ·refine Wk.mk [] ?_
    try simp (maxSteps:=9^9) only[go_sem,z0]
    try (and_intros<;>first|rfl|omega|exact ⟨_,rfl⟩)
   ·rintro ⟨st,out,g⟩ ⟨hco,hg⟩
    dsimp only at hco hg
    have hst:=hco.1
    have hlen:=hco.2.2.1
    have hsu:=sum_24 har.2 har.1.2 hst
    have hsu0:0<=(st0 l).sum/\(st0 l).sum<=24:=sum_24 har.2 har.1.2 hs0
    have hb1:(out.length+1) * 8<=140737488355328:=by omega
    have hb2:out.length<=9223372036854775806:=by omega
    have c5:=fun m=>plFm (isEnd_fn l har.1 st hst) m
    by_cases he:endP l st
    ·simp only [bdec_t he] at c5
     have ho:=hco.fin he
     rw [<-ho]
     try simp (maxSteps:=9^9) only[go_sem]
     repeat refine AI ?_
     repeat refine AI ?_
     refine CallW.h 1 (c5) ?_
     try simp (maxSteps:=9^9) only[go_sem]
     all_goals repeat refine AI ?_
     all_goals first|kernel_rfl|omega|rfl
    ·simp only [bdec_f he] at c5
     try simp (maxSteps:=9^9) only[go_sem]
     repeat refine AI ?_
     repeat refine AI ?_
     refine CallW.h 1 (c5) ?_
     try simp (maxSteps:=9^9) only[go_sem]
     repeat refine AI ?_
     refine LoopG.intro _ _ _ (fun y:Nat × Memo=>⟨[(0,.sl tTour l),(4,.ptr 0 0),(5,.ptr 2 0),(6,.row 3 0),(26,.sc (.int .i64 l.length)),(27,.sc (.int .i64 y.1))],[(0,.box (cel tPl0 (l,plT l)++[.row 1 0])),(1,.ob none 0 (.map y.2)),(2,.box (cel tState (s3 st))),(3,.row 3 .int 0 true out)]⟩) (fun y=>y.1<=l.length/\conP l y.2/\∀ j,j < y.1->¬ okF l st j) (fun y=>l.length - y.1) (0,g) ?_ ⟨Nat.zero_le _,hg,fun j hj=>absurd hj (Nat.not_lt_zero _)⟩ ?_
     ·exact WK
     ·rintro ⟨k,g'⟩ ⟨hk,hg',hno⟩
      dsimp only at hk hg' hno
      try simp (maxSteps:=9^9) only[go_sem]
      refine CondW_dec (fun hA=>?_) (fun hA=>?_)
      ·have hlt:k < l.length:=by omega
       have c6:=fun m=>plFm (advance_fn l har.1 st har.2 hst k hlt) m
       by_cases hf:frP l st k
       ·simp only [bdec_t hf,cond_true] at c6
        have c7:=canFinish_fn l har.1 har.2 (remN l (adv st k)+1) (adv st k) g' (stP_adv hst hlt hf.1) hg' (by omega)
        have hg2:=cfG_con har.1.2 (remN l (adv st k)+1) (adv st k) g' (stP_adv hst hlt hf.1) hg'
        by_cases hcn:canP l (adv st k)
        ·rw [bdec_t hcn] at c7
         have hco':=hco.step he hlt ⟨hf,hcn⟩ hno
         have hr:=remN_adv hst hlt hf
         try simp (maxSteps:=9^9) only[go_sem]
         repeat refine AI ?_
         repeat refine AI ?_
         refine CallW.h 1 (c6) ?_
         try simp (maxSteps:=9^9) only[go_sem]
         repeat refine AI ?_
         repeat refine AI ?_
         refine CallW.mp 1 (c7) ?_
         try simp (maxSteps:=9^9) only[go_sem]
         refine ⟨hb1,hb2,?_⟩
         repeat refine AI ?_
         refine LoopK.mk (adv st k,out++[(k:Int)],cfG l (remN l (adv st k)+1) (adv st k) g') ?_ ⟨hco',hg2⟩ hr
         exact WK
        ·rw [bdec_f hcn] at c7
         try simp (maxSteps:=9^9) only[go_sem]
         repeat refine AI ?_
         repeat refine AI ?_
         refine CallW.h 1 (c6) ?_
         try simp (maxSteps:=9^9) only[go_sem]
         repeat refine AI ?_
         repeat refine AI ?_
         refine CallW.mp 1 (c7) ?_
         try simp (maxSteps:=9^9) only[go_sem]
         repeat refine AI ?_
         refine LoopK.mk (k+1,cfG l (remN l (adv st k)+1) (adv st k) g') ?_ ⟨by dsimp only; omega,hg2,fun j hj hok=>?_⟩ (by dsimp only; omega)
         ·exact WK
         ·by_cases h:j < k
          ·exact hno j h hok
          ·rw [show j=k by dsimp only at hj; omega] at hok
           exact hcn hok.2
       ·simp only [bdec_f hf,cond_false] at c6
        try simp (maxSteps:=9^9) only[go_sem]
        repeat refine AI ?_
        repeat refine AI ?_
        refine CallW.h 1 (c6) ?_
        try simp (maxSteps:=9^9) only[go_sem]
        repeat refine AI ?_
        refine LoopK.mk (k+1,g') ?_ ⟨by dsimp only; omega,hg',fun j hj hok=>?_⟩ (by dsimp only; omega)
        ·exact WK
        ·by_cases h:j < k
         ·exact hno j h hok
         ·rw [show j=k by dsimp only at hj; omega] at hok
          exact hf hok.1
      ·obtain ⟨k',h1,h2⟩:=okF_ex hco.2.1 he
       exact absurd h2 (hno k' (by omega))
def idxS:List (List Int)->List Int->Nat->Int
 | [],_,_=>-1
 | x :: S,t,n=>if x=t then (n:Int) else idxS S t (n+1)
theorem idxS_in:∀ {S:List (List Int)} {t:List Int} {n i:Nat},S[i]? = some t->(∀ j,j < i->S[j]? ≠ some t)->idxS S t n=(n+i:Nat)
 | [],t,n,i,h,_=>by simp at h
 | x :: S,t,n,0,h,_=>by
  simp at h; subst h
  unfold idxS; rw [if_pos rfl]; rfl
 | x :: S,t,n,i+1,h,hm=>by
  have h0:=hm 0 (by omega)
  have hne:x ≠ t:=fun e=>h0 (by simp [e])
  unfold idxS
  rw [if_neg hne,idxS_in (i:=i) (by simpa using h) fun j hj=>by have:=hm (j+1) (by omega); simpa using this]
  omega
theorem first_ex {S:List (List Int)} {t:List Int} (h:t ∈ S):∃ i:Nat,S[i]? = some t/\∀ j,j < i->S[j]? ≠ some t:=by
 induction S with
 | nil=>cases h
 | cons x S ih =>
  by_cases e:x=t
  ·exact ⟨0,by simp [e],fun j hj=>absurd hj (Nat.not_lt_zero _)⟩
  ·rcases List.mem_cons.1 h with h|h
   ·exact absurd h.symm e
   ·obtain ⟨i,h1,h2⟩:=ih h
    refine ⟨i+1,by simpa using h1,fun j hj=>?_⟩
    cases j with
    | zero=>simp [e]
    | succ j=>have:=h2 j (by omega); simpa using this
noncomputable def rowS (l:List DT) (st:List Int) (S:List (List Int)):Nat->List (List Int) × List Int
 | 0=>(S,[])
 | k+1=>bif bdec (frP l st k) then
   (if adv st k ∈ (rowS l st S k).1 then ((rowS l st S k).1,(rowS l st S k).2++[idxS (rowS l st S k).1 (adv st k) 0])
    else ((rowS l st S k).1++[adv st k],(rowS l st S k).2++[((rowS l st S k).1.length:Int)]))
  else ((rowS l st S k).1,(rowS l st S k).2++[-1])
noncomputable def grS (l:List DT) (s0:List Int):Nat->List (List Int) × List (List Int)
 | 0=>([s0],[])
 | i+1=>match (grS l s0 i).1[i]? with
  | some st=>((rowS l st (grS l s0 i).1 l.length).1,(grS l s0 i).2++[(rowS l st (grS l s0 i).1 l.length).2])
  | none=>grS l s0 i
theorem rowS_f {l:List DT} {st:List Int} {S S':List (List Int)} {row:List Int} {k:Nat} (h:rowS l st S k=(S',row)) (hf:¬ frP l st k):rowS l st S (k+1)=(S',row++[-1]):=by
 rw [rowS,bdec_f hf,h]; rfl
theorem rowS_i {l:List DT} {st:List Int} {S S':List (List Int)} {row:List Int} {k i:Nat} (h:rowS l st S k=(S',row)) (hf:frP l st k) (hi:S'[i]? = some (adv st k)) (hm:∀ j,j < i->S'[j]? ≠ some (adv st k)):rowS l st S (k+1)=(S',row++[(i:Int)]):=by
 rw [rowS,bdec_t hf,h]
 show (if adv st k ∈ S' then (S',row++[idxS S' (adv st k) 0]) else (S'++[adv st k],row++[(S'.length:Int)]))=_
 rw [if_pos (List.mem_of_getElem? hi),idxS_in hi hm,Nat.zero_add]
theorem rowS_n {l:List DT} {st:List Int} {S S':List (List Int)} {row:List Int} {k:Nat} (h:rowS l st S k=(S',row)) (hf:frP l st k) (hn:adv st k ∉ S'):rowS l st S (k+1)=(S'++[adv st k],row++[(S'.length:Int)]):=by
 rw [rowS,bdec_t hf,h]
 show (if adv st k ∈ S' then (S',row++[idxS S' (adv st k) 0]) else (S'++[adv st k],row++[(S'.length:Int)]))=_
 rw [if_neg hn]
theorem grS_s {l:List DT} {s0 st:List Int} {S N S':List (List Int)} {row:List Int} {i:Nat} (h:grS l s0 i=(S,N)) (hst:S[i]? = some st) (hr:rowS l st S l.length=(S',row)):grS l s0 (i+1)=(S',N++[row]):=by
 rw [grS,h]
 simp only
 rw [hst]
 simp only
 rw [hr]
theorem grS_e {l:List DT} {s0:List Int} {S N:List (List Int)} {i:Nat} (h:grS l s0 i=(S,N)) (hi:S.length=i):∀ j,i<=j->grS l s0 j=(S,N)
 | 0,hj=>by
  obtain rfl:i=0:=by omega
  exact h
 | j+1,hj=>by
  by_cases e:i=j+1
  ·rw [<-e]; exact h
  ·have ih:=grS_e h hi j (by omega)
   rw [grS,ih]
   simp only
   rw [List.getElem?_eq_none (by omega)]
structure RoI (l:List DT) (s0:List Int) (S N:List (List Int)) (st row:List Int):Prop where
 g:GrI l s0 S N
 cur:S[N.length]? = some st
 le:row.length<=l.length
 row:RowK l S st row
theorem RoI.start {l:List DT} {s0:List Int} {S N:List (List Int)} {st:List Int} (h:GrI l s0 S N) (hst:S[N.length]? = some st):RoI l s0 S N st []:=⟨h,hst,Nat.zero_le _,fun k hk=>by simp at hk⟩
theorem RoI.f {l:List DT} {s0:List Int} {S N:List (List Int)} {st row:List Int} (h:RoI l s0 S N st row) (hl:row.length < l.length) (hf:¬ frP l st row.length):RoI l s0 S N st (row++[-1]) :=
 ⟨h.g,h.cur,by simp; omega,h.row.snoc ⟨fun h'=>absurd h' hf,fun _=>rfl⟩⟩
theorem RoI.i {l:List DT} {s0:List Int} {S N:List (List Int)} {st row:List Int} (h:RoI l s0 S N st row) (hl:row.length < l.length) (hf:frP l st row.length) {i:Nat} (hi:S[i]? = some (adv st row.length)):RoI l s0 S N st (row++[(i:Int)]) :=
 ⟨h.g,h.cur,by simp; omega,h.row.snoc ⟨fun _=>⟨by omega,by rw [Int.toNat_natCast]; exact hi⟩,fun h'=>absurd hf h'⟩⟩
theorem RoI.n {l:List DT} {s0:List Int} {S N:List (List Int)} {st row:List Int} (h:RoI l s0 S N st row) (hl:row.length < l.length) (hf:frP l st row.length) (hn:adv st row.length ∉ S):RoI l s0 (S++[adv st row.length]) N st (row++[(S.length:Int)]):=by
 refine ⟨h.g.push h.cur hl hf hn,?_,by simp; omega,h.row.more.snoc ⟨fun _=>⟨by omega,?_⟩,fun h'=>absurd hf h'⟩⟩
 ·rw [List.getElem?_append_left (List.getElem?_eq_some_iff.1 h.cur).1]; exact h.cur
 ·rw [Int.toNat_natCast,List.getElem?_append_right (Nat.le_refl _)]; simp
theorem RoI.fin {l:List DT} {s0:List Int} {S N:List (List Int)} {st row:List Int} (h:RoI l s0 S N st row) (hl:row.length=l.length):GrI l s0 S (N++[row]):=h.g.next h.cur hl h.row
attribute [go_sem] Tryz.underlying94 Tryz.underlying97
@[go_sem] theorem bts_intS:bts Tryz.prog 26=some 24:=by kernel_rfl
theorem rowS_RoI {l:List DT} {s0 st:List Int} {S N:List (List Int)} (h:GrI l s0 S N) (hst:S[N.length]? = some st):∀ k,k<=l.length->(rowS l st S k).2.length=k/\RoI l s0 (rowS l st S k).1 N st (rowS l st S k).2:=by
 intro k
 induction k with
 | zero=>intro _; exact ⟨rfl,.start h hst⟩
 | succ k ih =>
  intro hk
  obtain ⟨h1,h2⟩:=ih (by omega)
  obtain ⟨T,row,hr⟩:∃ T row,rowS l st S k=(T,row):=⟨_,_,rfl⟩
  rw [hr] at h1 h2
  dsimp only at h1 h2
  subst h1
  by_cases hf:frP l st row.length
  ·by_cases hin:adv st row.length ∈ T
   ·obtain ⟨m,hm1,hm2⟩:=first_ex hin
    rw [rowS_i hr hf hm1 hm2]
    exact ⟨by simp,h2.i hk hf hm1⟩
   ·rw [rowS_n hr hf hin]
    exact ⟨by simp,h2.n hk hf hin⟩
  ·rw [rowS_f hr hf]
   exact ⟨by simp,h2.f hk hf⟩
theorem grS_all {l:List DT} {s0:List Int} (hs:stP l s0):∀ i,GrI l s0 (grS l s0 i).1 (grS l s0 i).2/\((grS l s0 i).2.length=i\/(grS l s0 i).2.length=(grS l s0 i).1.length)
 | 0=>⟨.one hs,.inl rfl⟩
 | i+1=>by
  obtain ⟨h1,h2⟩:=grS_all hs i
  obtain ⟨S,N,hy⟩:∃ S N,grS l s0 i=(S,N):=⟨_,_,rfl⟩
  rw [hy] at h1 h2
  dsimp only at h1 h2
  by_cases he:N.length=S.length
  ·rcases h2 with h2|h2
   ·have:=grS_e hy (by omega) (i+1) (by omega)
    rw [this]; exact ⟨h1,.inr he⟩
   ·cases hq:S[i]? with
    | none =>
     rw [grS,hy]; simp only; rw [hq]; exact ⟨h1,.inr he⟩
    | some st =>
     by_cases hi:N.length=i
     ·have:=(List.getElem?_eq_some_iff.1 hq).1; omega
     ·exfalso
      have:∀ j,(grS l s0 j).2.length<=j:=fun j=>by
       induction j with
       | zero=>exact Nat.le_refl _
       | succ j ih =>
        rw [grS]
        split
        ·simp; exact ih
        ·omega
      have hle:=this i
      rw [hy] at hle
      dsimp only at hle
      have:=(List.getElem?_eq_some_iff.1 hq).1
      omega
  ·have hi:N.length=i:=h2.resolve_right he
   have hlt:N.length < S.length:=by have:=h1.len; omega
   have hst:S[N.length]? = some S[N.length]:=List.getElem?_eq_getElem hlt
   generalize S[N.length]=st at hst
   obtain ⟨T,row,hr⟩:∃ T row,rowS l st S l.length=(T,row):=⟨_,_,rfl⟩
   obtain ⟨r1,r2⟩:=rowS_RoI h1 hst l.length (Nat.le_refl _)
   rw [hr] at r1 r2
   dsimp only at r1 r2
   rw [grS_s hy (by rw [<-hi]; exact hst) hr]
   exact ⟨r2.fin r1,.inl (by simp; exact hi)⟩
noncomputable abbrev gS (l:List DT) (s0:List Int):List (List Int):=(grS l s0 730).1
noncomputable abbrev gN (l:List DT) (s0:List Int):List (List Int):=(grS l s0 730).2
theorem gr_fin {l:List DT} (har:arP l) (h3:l.length<=3) {s0:List Int} (hs:stP l s0):GrI l s0 (gS l s0) (gN l s0)/\(gN l s0).length=(gS l s0).length:=by
 obtain ⟨h1,h2⟩:=grS_all hs 730
 have hS:=vals_le har h3 h1.g.nd fun t ht=>(h1.g.va t ht).1
 refine ⟨h1,h2.elim (fun h=>?_) id⟩
 have:=h1.len
 omega
theorem cnt_gr {l:List DT} (har:arP l) (h3:l.length<=3) {s0:List Int} (hs:stP l s0):(gS l s0).length=cntS l s0:=by
 obtain ⟨h1,h2⟩:=gr_fin har h3 hs
 exact cntS_eq h1.g.nd (h1.mem h2)
theorem cntd_gr {l:List DT} (har:arP l) (h3:l.length<=3) {s0:List Int} (hs:stP l s0):((gS l s0).filter fun t=>bdec (stk l t)).length=cntD l s0:=by
 obtain ⟨h1,h2⟩:=gr_fin har h3 hs
 exact cntD_eq h1.g.nd (h1.mem h2)
end Go.Proofs.YtbnkojgcbmfloaaGreat.DW

namespace Go.Proofs.YtbnkojgcbmfloaaGreat.DW
open Go.RowKit
noncomputable def stA (l:List DT) (st:List Int) (k:Nat):Bool:=bdec (¬ endP l st/\∀ j,j < k->¬ frP l st j)
theorem stA_0 {l:List DT} {st:List Int}:stA l st 0=!bdec (endP l st):=by
 by_cases h:endP l st
 ·rw [bdec_t h]; exact bdec_f fun g=>g.1 h
 ·rw [bdec_f h]; exact bdec_t ⟨h,fun j hj=>absurd hj (Nat.not_lt_zero _)⟩
theorem stA_s {l:List DT} {st:List Int} {k:Nat}:stA l st (k+1)=(stA l st k && !bdec (frP l st k)):=by
 by_cases h:¬ endP l st/\∀ j,j < k->¬ frP l st j
 ·rw [show stA l st k=true from bdec_t h,Bool.true_and]
  by_cases hf:frP l st k
  ·rw [bdec_t hf]; exact bdec_f fun g=>g.2 k (by omega) hf
  ·rw [bdec_f hf]; exact bdec_t ⟨h.1,fun j hj=>by
    by_cases e:j=k
    ·rw [e]; exact hf
    ·exact h.2 j (by omega)⟩
 ·rw [show stA l st k=false from bdec_f h,Bool.false_and]
  exact bdec_f fun g=>h ⟨g.1,fun j hj=>g.2 j (by omega)⟩
theorem stA_e {l:List DT} {st:List Int}:stA l st l.length=bdec (stk l st):=bdec_i Iff.rfl
theorem take_st {S:List (List Int)} {i:Nat} {st:List Int} (h:S[i]? = some st) (p:List Int->Bool):((S.take (i+1)).filter p).length=((S.take i).filter p).length+(if p st=true then 1 else 0):=by
 obtain ⟨h1,h2⟩:=List.getElem?_eq_some_iff.1 h
 rw [List.take_succ,h,List.filter_append,List.length_append]
 cases hp:p st<;>simp [hp]
attribute [go_sem] Tryz.underlying119
@[go_sem] theorem bts_state:bts Tryz.prog 68=some 24:=by kernel_rfl
def seenP (l:List DT) (L:List (List Int)) (g:Memo):Prop:=∀ st,stP l st->(st ∈ L->mlk g (s3 st)=some true)/\(st ∉ L->mlk g (s3 st)=none)
theorem seenP.start {l:List DT} (h3:l.length<=3):seenP l [st0 l] [(((0:Int),(0:Int),(0:Int)),true)]:=fun st hst=>by
 refine ⟨fun h=>?_,fun h=>?_⟩
 ·rw [List.mem_singleton.1 h,s3_zero]; rfl
 ·rw [mlk_cons,if_neg fun e=>?_]; rfl
  rw [<-s3_zero l] at e
  exact h (List.mem_singleton.2 (s3_inj h3 (stP_zero l) hst e).symm)
theorem seenP.push {l:List DT} (h3:l.length<=3) {L:List (List Int)} {g:Memo} (h:seenP l L g) {t:List Int} (ht:stP l t):seenP l (L++[t]) ((s3 t,true) :: g):=fun st hst=>by
 refine ⟨fun hm=>?_,fun hm=>?_⟩
 ·rw [mlk_cons]
  split
  ·rfl
  ·rename_i hne
   rcases List.mem_append.1 hm with hm|hm
   ·exact (h st hst).1 hm
   ·rw [List.mem_singleton.1 hm] at hne; exact absurd rfl hne
 ·rw [mlk_cons,if_neg fun e=>hm (List.mem_append.2 (.inr (List.mem_singleton.2 (s3_inj h3 ht hst e).symm)))]
  exact (h st hst).2 fun e=>hm (List.mem_append.2 (.inl e))
theorem drop_cons {S:List (List Int)} {i:Nat} {st:List Int} (h:S[i]? = some st):S.drop i=st :: S.drop (i+1):=by
 obtain ⟨h1,h2⟩:=List.getElem?_eq_some_iff.1 h
 rw [List.drop_eq_getElem_cons h1,h2]
abbrev qD (S:List (List Int)) (i:Nat):List (Int × Int × Int):=(S.drop i).map s3
theorem qD_cons {S:List (List Int)} {i:Nat} {st:List Int} (h:S[i]? = some st):qD S i=s3 st :: qD S (i+1):=by
 unfold qD; rw [drop_cons h]; rfl
theorem qD_push {S:List (List Int)} {i:Nat} {t:List Int} (h:i<=S.length):qD (S++[t]) i=qD S i++[s3 t]:=by
 unfold qD; rw [List.drop_append_of_le_length h,List.map_append]; rfl
theorem qD_len {S:List (List Int)} {i:Nat}:(qD S i).length=S.length - i:=by unfold qD; rw [List.length_map,List.length_drop]
theorem zs1 {n:Int} (h:I64 n):∀ z ∈ [Value.int .i64 n],z.oneCell'=true/\okv z:=fun z hz=>by
 rw [List.mem_singleton.1 hz]; exact ⟨rfl,h⟩
set_option maxHeartbeats 4000000 in
theorem reached_fn (l:List DT) (h:1<=l.length/\l.length<=3) (har:arP l) (fc:FuncId) (A:Nat->Ty) (xA:∀ b,(A b).den) (p:List Int->Bool)
  (hfc:∀ (st:List Int) (n:Nat),stP l st->n<=729->FnW Tryz.prog fc (fun b=>⟨tState,s3 st⟩ :: capD (A b) (xA b)) (BoxI [.int .i64 n]) (BoxI [.int .i64 ((n+(if p st=true then 1 else 0):Nat):Int)]) []) :
  FnW Tryz.prog 34 (fun b=>[⟨.ext .ref tPlanner,some (plD l)⟩,⟨.ext (.clo fc) (A b),some (xA b)⟩]) (BoxI [.int .i64 0]) (BoxI [.int .i64 (((gS l (st0 l)).filter p).length:Nat)]) []:=by
 have hs0:=stP_zero l
 have hI0:I64 0:=by constructor<;>decide
 refine fnE_enter tabOK mixes Tryz.func34 rfl rfl _ Tryz.ntmps34 _ Tryz.results34 (by rfl) (by simp) (by simp [*,okv]<;>rfl) fun b hwf=>?_
 try simp (maxSteps:=9^9) only[go_sem]
 refine LoopG.intro _ _ _ (fun y:Nat × List (List Int) × Memo=>⟨[(0,.ref tPlanner (plD l) 0),(1,.ex (.clo fc) (A b) (some (xA b))),(4,.row 1 0),(5,.row 2 0)],[(0,.bx (some b) [.sc (.int .i64 (((y.2.1.take y.1).filter p).length:Nat))]),(1,.ob none 0 (.map y.2.2)),(2,.ob none 0 (.que 68 tState (qD y.2.1 y.1)))]⟩) (fun y=>(∃ N,grS l (st0 l) y.1=(y.2.1,N)/\GrI l (st0 l) y.2.1 N/\N.length=y.1)/\seenP l y.2.1 y.2.2) (fun y=>730 - y.1) (0,[st0 l],[(((0:Int),(0:Int),(0:Int)),true)]) ?_ ⟨⟨[],rfl,.one hs0,rfl⟩,.start h.2⟩ ?_
 ·have e0:qD [st0 l] 0=[((0:Int),(0:Int),(0:Int))]:=by unfold qD; rw [List.drop_zero,List.map_cons,s3_zero]; rfl
  have e1:((([st0 l]:List (List Int)).take 0).filter p).length=0:=rfl
  dsimp only
  rw [e0,e1]
  exact WK
 ·rintro ⟨i,S,g⟩ ⟨⟨N,hy,hI,hN⟩,hg⟩
  dsimp only at hy hI hN hg ⊢
  have hS:=vals_le har h.2 hI.g.nd fun t ht=>(hI.g.va t ht).1
  have hNS:=hI.len
  have hql:=qD_len (S:=S) (i:=i)
  have hcl:((S.take i).filter p).length<=729:=Nat.le_trans (List.length_filter_le ..) (by rw [List.length_take]; omega)
  try simp (maxSteps:=9^9) only[go_sem,hql]
  refine CondW_dec (fun hA=>?_) (fun hA=>?_)
  ·have hiS:i < S.length:=by omega
   have hst:S[i]? = some S[i]:=List.getElem?_eq_getElem hiS
   generalize S[i]=st at hst
   have hstv:=(hI.g.va st (List.mem_of_getElem? hst)).1
   have hqc:=qD_cons hst
   have htk:=take_st hst p
   have hcl2:((S.take (i+1)).filter p).length<=729:=Nat.le_trans (List.length_filter_le ..) (by rw [List.length_take]; omega)
   have hcc:=hfc st ((S.take i).filter p).length hstv hcl
   rw [<-htk] at hcc
   have hn0:∀ L:List (Int × Int × Int),nth (t:=tState) (s3 st :: L) 0=s3 st:=fun _=>rfl
   rw [hqc]
   try simp (maxSteps:=9^9) only[go_sem,hn0]
   repeat refine AI ?_
   refine CallD.eb 0 b hcc (zs1 (n:=(((S.take (i+1)).filter p).length:Nat)) ⟨by omega,by omega⟩) rfl ?_
   try simp (maxSteps:=9^9) only[go_sem]
   repeat refine AI ?_
   refine LoopG.intro _ _ _ (fun y:List (List Int) × List Int × Memo=>⟨[(0,.ref tPlanner (plD l) 0),(1,.ex (.clo fc) (A b) (some (xA b))),(4,.row 1 0),(5,.row 2 0),(28,.sc (.int .i64 l.length)),(29,.sc (.int .i64 y.2.1.length))],[(0,.bx (some b) [.sc (.int .i64 (((S.take (i+1)).filter p).length:Nat))]),(1,.ob none 0 (.map y.2.2)),(2,.ob none 0 (.que 68 tState (s3 st :: qD y.1 (i+1))))]⟩) (fun y=>rowS l st S y.2.1.length=(y.1,y.2.1)/\RoI l (st0 l) y.1 N st y.2.1/\seenP l y.1 y.2.2/\∃ X,y.1=S++X) (fun y=>l.length - y.2.1.length) (S,[],g) ?_ ⟨rfl,.start hI (by rw [hN]; exact hst),hg,[],by simp⟩ ?_
   ·exact WK
   ·rintro ⟨T,row,g'⟩ ⟨hr,hR,hg',X,hX⟩
    dsimp only at hr hR hg' hX
    have hT:=vals_le har h.2 hR.g.g.nd fun t ht=>(hR.g.g.va t ht).1
    have hTi:i < T.length:=by rw [hX,List.length_append]; omega
    try simp (maxSteps:=9^9) only[go_sem]
    refine CondW_dec (fun hB=>?_) (fun hB=>?_)
    ·have hlt:row.length < l.length:=by omega
     have c1:=advance_fn l h st har hstv row.length hlt
     by_cases hf:frP l st row.length
     ·simp only [bdec_t hf,cond_true] at c1
      have hav:=stP_adv hstv hlt hf.1
      by_cases hin:adv st row.length ∈ T
      ·have hm:mlk g' (ni (adv st row.length) 0,ni (adv st row.length) 1,ni (adv st row.length) 2)=some true:=(hg' _ hav).1 hin
       obtain ⟨m,hm1,hm2⟩:=first_ex hin
       have hr':=rowS_i hr hf hm1 hm2
       have hR':=hR.i hlt hf hm1
       try simp (maxSteps:=9^9) only[go_sem,hn0]
       repeat refine AI ?_
       repeat refine AI ?_
       refine cw c1 ?_
       try simp (maxSteps:=9^9) only[go_sem]
       try simp (maxSteps:=9^9) only[go_sem,hm]
       repeat refine AI ?_
       trace_state
       refine LoopK.mk (T,row++[(m:Int)],g') ?_ ⟨by dsimp only; rw [List.length_append]; exact hr',hR',hg',X,hX⟩ (by dsimp only; rw [List.length_append,List.length_singleton]; omega)
       exact WK
      ·have hm:mlk g' (ni (adv st row.length) 0,ni (adv st row.length) 1,ni (adv st row.length) 2)=none:=(hg' _ hav).2 hin
       have hr':=rowS_n hr hf hin
       have hR':=hR.n hlt hf hin
       have hg2:=hg'.push h.2 hav
       have hqp:=qD_push (S:=T) (i:=i+1) (t:=adv st row.length) hTi
       have hqT:=qD_len (S:=T) (i:=i+1)
       try simp (maxSteps:=9^9) only[go_sem,hn0]
       repeat refine AI ?_
       repeat refine AI ?_
       refine cw c1 ?_
       try simp (maxSteps:=9^9) only[go_sem]
       try simp (maxSteps:=9^9) only[go_sem,hm,hqT]
       repeat refine AI ?_
       trace_state
       refine LoopK.mk (T++[adv st row.length],row++[(T.length:Int)],(s3 (adv st row.length),true) :: g') ?_ ⟨by dsimp only; rw [List.length_append]; exact hr',hR',hg2,X++[adv st row.length],by rw [hX,List.append_assoc]⟩ (by dsimp only; rw [List.length_append,List.length_singleton]; omega)
       dsimp only
       rw [hqp]
       exact WK
     ·simp only [bdec_f hf,cond_false] at c1
      have hr':=rowS_f hr hf
      have hR':=hR.f hlt hf
      try simp (maxSteps:=9^9) only[go_sem,hn0]
      repeat refine AI ?_
      repeat refine AI ?_
      refine cw c1 ?_
      try simp (maxSteps:=9^9) only[go_sem]
      repeat refine AI ?_
      refine LoopK.mk (T,row++[(-1:Int)],g') ?_ ⟨by dsimp only; rw [List.length_append]; exact hr',hR',hg',X,hX⟩ (by dsimp only; rw [List.length_append,List.length_singleton]; omega)
      exact WK
    ·have hrl:row.length=l.length:=by have:=hR.le; omega
     have hfin:=hR.fin hrl
     have hgs:grS l (st0 l) (i+1)=(T,N++[row]):=grS_s hy (by rw [<-hN] at *; exact hst) (by rw [hrl] at hr; exact hr)
     have htk2:T.take (i+1)=S.take (i+1):=by rw [hX,List.take_append_of_le_length (by omega)]
     try simp (maxSteps:=9^9) only[go_sem]
     repeat refine AI ?_
     trace_state
     refine LoopK.mk (i+1,T,g') ?_ ⟨⟨_,hgs,hfin,by rw [List.length_append,hN]; rfl⟩,hg'⟩ (by dsimp only; omega)
     dsimp only
     rw [htk2]
     exact WK
  ·have hSi:S.length=i:=by omega
   have hall:=grS_e hy hSi 730 (by omega)
   have htk:S.take i=S:=by rw [<-hSi,List.take_length]
   rw [htk]
   rw [show gS l (st0 l)=S by unfold gS; rw [hall]]
   try simp (maxSteps:=9^9) only[go_sem]
   all_goals repeat refine AI ?_
   all_goals first|kernel_rfl|omega|rfl
set_option maxHeartbeats 4000000 in
theorem cntSC_fn (st:List Int) (n:Nat) (hn:n<=729):FnW Tryz.prog 42 (fun b=>⟨tState,s3 st⟩ :: capD (.cst (.ptr b)) ()) (BoxI [.int .i64 n]) (BoxI [.int .i64 ((n+(if (fun _:List Int=>true) st=true then 1 else 0):Nat):Int)]) []:=by
 have hI:I64 (n:Int):=by constructor<;>omega
 rw [if_pos rfl]
 refine fnE_enter tabOK mixes Tryz.func42 rfl rfl _ Tryz.ntmps42 _ Tryz.results42 (by rfl) (fun _=>by show 2<=_; decide) (zs1 hI) fun b hwf=>?_
 try simp (maxSteps:=9^9) only[go_sem,capD]
 refine ⟨⟨by omega,by omega⟩,by omega⟩
theorem cntS_le {l:List DT} (har:arP l) (h3:l.length<=3) {s0:List Int} (hs:stP l s0):cntS l s0<=729:=by
 obtain ⟨hI,_⟩:=gr_fin har h3 hs
 have h:=vals_le har h3 hI.g.nd fun t ht=>(hI.g.va t ht).1
 rw [cnt_gr har h3 hs] at h
 exact h
theorem cntD_le {l:List DT} (har:arP l) (h3:l.length<=3) {s0:List Int} (hs:stP l s0):cntD l s0<=729:=by
 obtain ⟨hI,_⟩:=gr_fin har h3 hs
 have h:=vals_le har h3 hI.g.nd fun t ht=>(hI.g.va t ht).1
 rw [<-cntd_gr har h3 hs]
 exact Nat.le_trans (List.length_filter_le ..) h
theorem all_gr (l:List DT):((gS l (st0 l)).filter fun _=>true)=gS l (st0 l):=List.filter_eq_self.2 fun _ _=>rfl
set_option maxHeartbeats 4000000 in
theorem CountStatesI_fn (l:List DT):Fn Tryz.prog 12 [⟨.slice tTour,l⟩] false [⟨.int,if arB l=true then (cntS l (st0 l):Int) else -1⟩]:=by
 have c0:=AreToursI_fn l
 cases ha:arB l<;>rw [ha] at c0
 ·rw [if_neg (by decide)]
  refine fe Tryz.func12 Tryz.ntmps12 Tryz.results12 fun hwf=>?_
  try simp (maxSteps:=9^9) only[go_sem]
  repeat refine AI ?_
  refine cw c0 ?_
  try simp (maxSteps:=9^9) only[go_sem]
  all_goals repeat refine AI ?_
  all_goals first|kernel_rfl|omega|rfl
 ·have har:=arB_p ha
  have hs0:=stP_zero l
  have c2:=newPlanner_fn l har.1
  have c3:=reached_fn l har.1 har.2 42 (fun b=>.cst (.ptr b)) (fun _=>()) (fun _=>true) (fun st n _ hn=>cntSC_fn st n hn)
  have hfl:((gS l (st0 l)).filter fun _=>true).length=cntS l (st0 l):=by rw [all_gr,cnt_gr har.2 har.1.2 hs0]
  rw [hfl] at c3
  unfold plD at c3
  have hle:cntS l (st0 l)<=729:=cntS_le har.2 har.1.2 hs0
  have hI2:I64 (cntS l (st0 l):Nat):=by constructor<;>omega
  rw [if_pos rfl]
  refine fe Tryz.func12 Tryz.ntmps12 Tryz.results12 fun hwf=>?_
  try simp (maxSteps:=9^9) only[go_sem]
  repeat refine AI ?_
  refine cw c0 ?_
  try simp (maxSteps:=9^9) only[go_sem]
  repeat refine AI ?_
  repeat refine AI ?_
  refine CallW.np (c2) ?_
  try simp (maxSteps:=9^9) only[go_sem]
  refine CallK.eb 0 c3 (zs1 hI2) ?_
  try simp (maxSteps:=9^9) only[go_sem]
  exact fun b=>rfl
theorem b2n (b:Bool):(if b=true then 1 else 0:Nat)=b.toNat:=by cases b<;>rfl
set_option maxHeartbeats 4000000 in
theorem cntDC_fn (l:List DT) (h:1<=l.length/\l.length<=3) (har:arP l) (st:List Int) (n:Nat) (hst:stP l st) (hn:n<=729):FnW Tryz.prog 35 (fun b=>⟨tState,s3 st⟩ :: capD (.prod (.ext .ref (.ext .ref tPlanner)) (.prod (.ext .ref (.slice tTour)) (.cst (.ptr b)))) (some (some (plD l)),(some l,()))) (BoxI [.int .i64 n]) (BoxI [.int .i64 ((n+(if (fun t=>bdec (stk l t)) st=true then 1 else 0):Nat):Int)]) []:=by
 have hI:I64 (n:Int):=by constructor<;>omega
 have c1:=isEnd_fn l h st hst
 have eb:=b2n (bdec (stk l st))
 dsimp only
 rw [eb]
 refine fnE_enter tabOK mixes Tryz.func35 rfl rfl _ Tryz.ntmps35 _ Tryz.results35 (by rfl) (fun _=>by show 4<=_; decide) (zs1 hI) fun b hwf=>?_
 try simp (maxSteps:=9^9) only[go_sem,capD]
 repeat refine AI ?_
 refine cw c1 ?_
 try simp (maxSteps:=9^9) only[go_sem]
 refine LoopG.intro _ _ _ (fun k:Nat=>⟨[(1,.ref (.ext .ref tPlanner) (some (plD l)) 0),(2,.ref (.slice tTour) l 0),(3,.ptr 0 0),(4,.ptr 1 0),(5,.sc (.bool (stA l st k))),(14,.sc (.int .i64 l.length)),(15,.sc (.int .i64 k))],[(0,.bx (some b) [.sc (.int .i64 n)]),(1,.box (cel tState (s3 st)))]⟩) (fun k=>k<=l.length) (fun k=>l.length - k) 0 ?_ (Nat.zero_le _) ?_
 ·rw [stA_0]
  exact WK
 ·rintro k hk
  try simp (maxSteps:=9^9) only[go_sem]
  refine CondW_dec (fun hB=>?_) (fun hB=>?_)
  ·have hkl:k < l.length:=by omega
   have c2:=advance_fn l h st har hst k hkl
   have hs:=stA_s (l:=l) (st:=st) (k:=k)
   by_cases hf:frP l st k
   ·simp only [bdec_t hf,cond_true] at c2
    rw [bdec_t hf] at hs
    cases ha':stA l st k with
    | false =>
     rw [ha',Bool.false_and] at hs
     try simp (maxSteps:=9^9) only[go_sem]
     repeat refine AI ?_
     repeat refine AI ?_
     refine cw c2 ?_
     try simp (maxSteps:=9^9) only[go_sem]
     repeat refine AI ?_
     refine LoopK.mk (k+1) ?_ (by omega) (by omega)
     rw [hs]
     exact WK
    | true =>
     rw [ha',Bool.true_and] at hs
     try simp (maxSteps:=9^9) only[go_sem]
     repeat refine AI ?_
     repeat refine AI ?_
     refine cw c2 ?_
     try simp (maxSteps:=9^9) only[go_sem]
     repeat refine AI ?_
     refine LoopK.mk (k+1) ?_ (by omega) (by omega)
     rw [hs]
     exact WK
   ·simp only [bdec_f hf,cond_false] at c2
    rw [bdec_f hf] at hs
    cases ha':stA l st k with
    | false =>
     rw [ha',Bool.false_and] at hs
     try simp (maxSteps:=9^9) only[go_sem]
     repeat refine AI ?_
     repeat refine AI ?_
     refine cw c2 ?_
     try simp (maxSteps:=9^9) only[go_sem]
     repeat refine AI ?_
     refine LoopK.mk (k+1) ?_ (by omega) (by omega)
     rw [hs]
     exact WK
    | true =>
     rw [ha',Bool.true_and] at hs
     try simp (maxSteps:=9^9) only[go_sem]
     repeat refine AI ?_
     repeat refine AI ?_
     refine cw c2 ?_
     try simp (maxSteps:=9^9) only[go_sem]
     repeat refine AI ?_
     refine LoopK.mk (k+1) ?_ (by omega) (by omega)
     rw [hs]
     exact WK
  ·obtain rfl:k=l.length:=by omega
   rw [stA_e]
   by_cases hk:stk l st
   ·rw [bdec_t hk,Bool.toNat_true]
    try simp (maxSteps:=9^9) only[go_sem]
    refine ⟨⟨by omega,by omega⟩,by omega⟩
   ·rw [bdec_f hk,Bool.toNat_false]
    try simp (maxSteps:=9^9) only[go_sem]
    all_goals repeat refine AI ?_
    all_goals first|kernel_rfl|omega|rfl
theorem stk_gr (l:List DT) (har:arP l) (h3:l.length<=3):((gS l (st0 l)).filter fun t=>bdec (stk l t)).length=cntD l (st0 l):=cntd_gr har h3 (stP_zero l)
set_option maxHeartbeats 4000000 in
theorem CountDeadlocksI_fn (l:List DT):Fn Tryz.prog 10 [⟨.slice tTour,l⟩] false [⟨.int,if arB l=true then (cntD l (st0 l):Int) else -1⟩]:=by
 have c0:=AreToursI_fn l
 cases ha:arB l<;>rw [ha] at c0
 ·rw [if_neg (by decide)]
  refine fe Tryz.func10 Tryz.ntmps10 Tryz.results10 fun hwf=>?_
  try simp (maxSteps:=9^9) only[go_sem]
  repeat refine AI ?_
  refine cw c0 ?_
  try simp (maxSteps:=9^9) only[go_sem]
  all_goals repeat refine AI ?_
  all_goals first|kernel_rfl|omega|rfl
 ·have har:=arB_p ha
  have hs0:=stP_zero l
  have c2:=newPlanner_fn l har.1
  have c3:=reached_fn l har.1 har.2 35 (fun b=>.prod (.ext .ref (.ext .ref tPlanner)) (.prod (.ext .ref (.slice tTour)) (.cst (.ptr b)))) (fun _=>(some (some (plD l)),(some l,()))) (fun t=>bdec (stk l t)) (fun st n hst hn=>cntDC_fn l har.1 har.2 st n hst hn)
  rw [stk_gr l har.2 har.1.2] at c3
  unfold plD at c3
  have hle:cntD l (st0 l)<=729:=cntD_le har.2 har.1.2 hs0
  have hI2:I64 (cntD l (st0 l):Nat):=by constructor<;>omega
  rw [if_pos rfl]
  refine fe Tryz.func10 Tryz.ntmps10 Tryz.results10 fun hwf=>?_
  try simp (maxSteps:=9^9) only[go_sem]
  repeat refine AI ?_
  refine cw c0 ?_
  try simp (maxSteps:=9^9) only[go_sem]
  repeat refine AI ?_
  repeat refine AI ?_
  refine CallW.np (c2) ?_
  try simp (maxSteps:=9^9) only[go_sem]
  refine CallK.eb 4 c3 (zs1 hI2) ?_
  try simp (maxSteps:=9^9) only[go_sem]
  refine fun b=>⟨rfl,⟨by decide,(?_:IsH0 _ 4 b tPlanner (l,(plT l,some (0:Int))) (cel tPl0 (l,plT l)++[.row 2 0]))⟩⟩
  try simp (maxSteps:=9^9) only[go_sem]
  rfl
def lenS (l:List DT):List Nat:=l.map fun t=>t.2.2.length
theorem cntS_pos {l:List DT} (har:arP l) (h3:l.length<=3) {s0:List Int} (hs:stP l s0):1<=cntS l s0:=by
 obtain ⟨hI,_⟩:=gr_fin har h3 hs
 have h:=(List.getElem?_eq_some_iff.1 hI.g.ne).1
 rw [cnt_gr har h3 hs] at h
 exact h
theorem lenS_get {l:List DT} {i:Nat} (h:i < l.length):(lenS l).getD i 0=(nth (t:=tTour) l i).2.2.length:=by
 unfold lenS
 rw [List.getD_eq_getElem?_getD,List.getElem?_map,List.getElem?_eq_getElem h,nth_lt h]; rfl
theorem cntS_most {l:List DT} (har:arP l) (h3:l.length<=3) {s0:List Int} (hs:stP l s0):cntS l s0<=prodS (lenS l):=by
 obtain ⟨hI,_⟩:=gr_fin har h3 hs
 have h:=nodup_sub (M:=allS (lenS l)) hI.g.nd fun t ht=>by
  have hv:=(hI.g.va t ht).1
  refine allS_mem _ _ (by rw [hv.1]; unfold lenS; rw [List.length_map]) fun i hi=>?_
  have h2:=hv.2 i hi
  unfold stAt at h2
  rw [lenS_get (by rw [<-hv.1]; exact hi)]
  exact h2
 rw [allS_len,cnt_gr har h3 hs] at h
 exact h
theorem cntD_zero {l:List DT} (har:arP l) (h3:l.length<=3) {s0:List Int} (hs:stP l s0) (h:cntD l s0=0):canP l s0:=by
 obtain ⟨hI,hN⟩:=gr_fin har h3 hs
 have hm:=hI.mem hN
 rw [<-cntd_gr har h3 hs] at h
 have he:=List.eq_nil_of_length_eq_zero h
 refine free_can hs fun t ht hk=>?_
 have:t ∈ (gS l s0).filter fun t=>bdec (stk l t):=List.mem_filter.2 ⟨(hm t).2 ht,bdec_t hk⟩
 rw [he] at this
 cases this
theorem sum_nat (L:List Nat):∀ (t:List Int),t.length=L.length->(∀ i,i < t.length->ni t i=(L.getD i 0:Nat))->t.sum=(L.sum:Nat):=by
 induction L with
 | nil=>intro t h _; have:=List.eq_nil_of_length_eq_zero h; subst this; rfl
 | cons n L ih =>
  intro t h hv
  cases t with
  | nil=>simp at h
  | cons a t =>
   have h0:=hv 0 (by simp)
   rw [ni_lt (by simp)] at h0
   simp at h0
   have:=ih t (by simpa using h) fun i hi=>by
    have:=hv (i+1) (by simp; omega)
    rw [ni_lt (by simp; omega)] at this
    rw [ni_lt hi]
    simpa using this
   simp only [List.sum_cons,this,h0]
   omega
theorem end_sum {l:List DT} {t:List Int} (hs:stP l t) (he:endP l t):t.sum=((lenS l).sum:Nat) :=
 sum_nat _ t (by rw [hs.1]; unfold lenS; rw [List.length_map]) fun i hi=>by
  have hi':i < l.length:=by rw [<-hs.1]; exact hi
  rw [he i hi',lenS_get hi']
theorem st0_sum (l:List DT):(st0 l).sum=0:=by
 have:∀ n,(List.replicate n (0:Int)).sum=0:=fun n=>by
  induction n with
  | zero=>rfl
  | succ n ih=>rw [List.replicate_succ,List.sum_cons,ih]; rfl
 exact this _
theorem crd_facts {l:List DT} (h:crdP l):schP l (crdL l)/\(crdL l).length=(lenS l).sum/\(lenS l).sum+1<=cntS l (st0 l):=by
 have har:=arB_p h.1
 have hs0:stP l (st0 l):=stP_zero l
 have e:crdL l=coo l (remN l (st0 l)) (st0 l):=by unfold crdL; rw [bdec_t h]; rfl
 obtain ⟨t,h1,h2⟩:=coo_sch (remN l (st0 l)) hs0 h.2 (Nat.le_refl _)
 rw [<-e] at h1
 have hts:=(sch_rea h1).val hs0
 have h3:=sch_sum hs0 h1
 rw [end_sum hts h2,st0_sum] at h3
 have hlen:(crdL l).length=(lenS l).sum:=by omega
 obtain ⟨hI,hN⟩:=gr_fin har.2 har.1.2 hs0
 have h4:=lt_of_lev (hI.mem hN) (n:=(crdL l).length) fun i hi=>sch_pre hs0 h1 i hi
 rw [cnt_gr har.2 har.1.2 hs0,hlen] at h4
 exact ⟨⟨h.1,t,h1,h2⟩,hlen,h4⟩
def mstN (l:List DT) (i:Nat):Nat:=((lenS l).take i).foldl (fun a n=>a * (n+1)) 1
theorem lenS_take {l:List DT} {i:Nat} (h:i < l.length):(lenS l).take (i+1)=(lenS l).take i++[(nth (t:=tTour) l i).2.2.length]:=by
 have hi:i < (lenS l).length:=by unfold lenS; rw [List.length_map]; exact h
 rw [List.take_succ_eq_append_getElem hi]
 congr 2
 have:=lenS_get h
 rw [List.getD_eq_getElem?_getD,List.getElem?_eq_getElem hi] at this
 exact this
theorem mstN_s {l:List DT} {i:Nat} (h:i < l.length):mstN l (i+1)=mstN l i * ((nth (t:=tTour) l i).2.2.length+1):=by
 unfold mstN
 rw [lenS_take h,List.foldl_append]; rfl
theorem fold_prod (L:List Nat):∀ a:Nat,L.foldl (fun a n=>a * (n+1)) a=a * prodS L:=by
 induction L with
 | nil=>intro a; simp [prodS]
 | cons n L ih=>intro a; rw [List.foldl_cons,ih,prodS,Nat.mul_assoc]
theorem mstN_e {l:List DT}:mstN l l.length=prodS (lenS l):=by
 unfold mstN
 rw [show l.length=(lenS l).length by unfold lenS; rw [List.length_map],List.take_length,fold_prod,Nat.one_mul]
theorem mstN_le {l:List DT} (h:∀ i,i < l.length->(nth (t:=tTour) l i).2.2.length<=8):∀ i,i<=l.length->mstN l i<=9 ^ i
 | 0,_=>Nat.le_refl _
 | i+1,hi=>by
  rw [mstN_s hi,Nat.pow_succ]
  exact Nat.mul_le_mul (mstN_le h i (by omega)) (by have:=h i hi; omega)
def totN (l:List DT) (i:Nat):Nat:=((lenS l).take i).sum
theorem totN_s {l:List DT} {i:Nat} (h:i < l.length):totN l (i+1)=totN l i+(nth (t:=tTour) l i).2.2.length:=by
 unfold totN
 rw [lenS_take h,List.sum_append]; simp
theorem totN_e {l:List DT}:totN l l.length=(lenS l).sum:=by
 unfold totN
 rw [show l.length=(lenS l).length by unfold lenS; rw [List.length_map],List.take_length]
theorem totN_le {l:List DT} (h:∀ i,i < l.length->(nth (t:=tTour) l i).2.2.length<=8):∀ i,i<=l.length->totN l i<=8 * i
 | 0,_=>Nat.le_refl _
 | i+1,hi=>by
  rw [totN_s hi]
  have:=totN_le h i (by omega)
  have:=h i hi
  omega
theorem fin_crd (l:List DT):bdec (finP l (st0 l))=bdec (crdP l):=bdec_i ⟨fun h=>⟨h.1,h.2.2⟩,fun h=>⟨h.1,stP_zero l,h.2⟩⟩
set_option maxHeartbeats 4000000 in
theorem lawDeadlocks_fn (code:List Int):Fn Tryz.prog 3 [⟨.slice .u8,code⟩] false [⟨.bool,true⟩]:=by
 by_cases hc:code.length<=1048576
 rotate_left
 ·have d0:decide (((1048576:Int)) < (code.length:Int))=true:=decide_eq_true (by omega)
  refine fe Tryz.func3 Tryz.ntmps3 Tryz.results3 fun hwf=>?_
  try simp (maxSteps:=9^9) only[go_sem,d0]
  all_goals repeat refine AI ?_
  all_goals first|kernel_rfl|omega|rfl
 have d0:decide (((1048576:Int)) < (code.length:Int))=false:=decide_eq_false (by omega)
 have cT:=MakeTours_fn hc
 have hT:=mkT_ok hc
 have hl:1<=(mkT code hc).length/\(mkT code hc).length<=3:=by
  have:=mtN_rng hc
  unfold mkT; rw [mtL_len]; exact this
 generalize mkT code hc=T at *
 have h8:∀ i,i < T.length->(nth (t:=tTour) T i).2.2.length<=8:=fun i hi=>by
  have h:=(hT (nth (t:=tTour) T i) (by rw [nth_lt hi]; exact List.getElem_mem _)).ok
  have:=(tour_parts h).2.2.2.1
  omega
 have hml:=mstN_le h8
 have h39:∀ i,i<=T.length->mstN T i<=729:=fun i hi=>Nat.le_trans (hml i hi) (Nat.le_trans (Nat.pow_le_pow_right (by decide) (by omega:i<=3)) (by decide))
 have cA:=AreToursI_fn T
 have cD:=CountDeadlocksI_fn T
 have cS:=CountStatesI_fn T
 have cF:=CanFinishI_fn T (st0 T)
 have hme:=mstN_e (l:=T)
 have hs0:stP T (st0 T):=stP_zero T
 generalize hD:(if arB T=true then (cntD T (st0 T):Int) else -1)=nD at cD
 generalize hS:(if arB T=true then (cntS T (st0 T):Int) else -1)=nS at cS
 refine fe Tryz.func3 Tryz.ntmps3 Tryz.results3 fun hwf=>?_
 try simp (maxSteps:=9^9) only[go_sem,d0]
 repeat refine AI ?_
 refine cw cT ?_
 try simp (maxSteps:=9^9) only[go_sem]
 repeat refine AI ?_
 repeat refine AI ?_
 refine cw cD ?_
 try simp (maxSteps:=9^9) only[go_sem]
 repeat refine AI ?_
 refine LoopG.intro _ _ _ (fun i:Nat=>⟨[(2,.sc (.bool false)),(3,.sl tTour T),(4,.sc (.int .i64 nD)),(5,.row 0 0),(6,.sc (.int .i64 (mstN T i:Nat))),(20,.sl tTour T),(21,.sc (.int .i64 T.length)),(22,.sc (.int .i64 i))],[(0,.row 3 .int 0 true (List.replicate T.length 0))]⟩) (fun i=>i<=T.length) (fun i=>T.length - i) 0 ?_ (Nat.zero_le _) ?_
 ·exact WK
 ·rintro i hi
  try simp (maxSteps:=9^9) only[go_sem]
  refine CondW_dec (fun hA=>?_) (fun hA=>?_)
  ·have hia:i < T.length:=by omega
   have h8i:=h8 i hia
   have hs:=mstN_s hia
   have h3i:=h39 (i+1) hia
   have hcast:((mstN T i:Nat):Int) * (((nth (t:=tTour) T i).2.2.length:Int)+1)=((mstN T (i+1):Nat):Int):=by rw [hs]; rfl
   have hI:I64 (((mstN T (i+1):Nat)):Int):=by constructor<;>omega
   try simp (maxSteps:=9^9) only[go_sem]
   repeat refine AI ?_
   refine LoopK.mk (i+1) ?_ (by omega) (by omega)
   rw [<-hcast]
   exact WK
  ·obtain rfl:i=T.length:=by omega
   cases ha:arB T
   ·rw [ha] at cA
    rw [ha,if_neg (by decide)] at hD hS
    subst hD hS
    try simp (maxSteps:=9^9) only[go_sem]
    repeat refine AI ?_
    repeat refine AI ?_
    refine cw cA ?_
    try simp (maxSteps:=9^9) only[go_sem]
    repeat refine AI ?_
    repeat refine AI ?_
    refine cw cS ?_
    try simp (maxSteps:=9^9) only[go_sem]
    all_goals repeat refine AI ?_
    all_goals first|kernel_rfl|omega|rfl
   ·have har:=arB_p ha
    have hpos:=cntS_pos har.2 har.1.2 hs0
    have hmost:=cntS_most har.2 har.1.2 hs0
    rw [<-hme] at hmost
    rw [ha] at cA
    rw [ha,if_pos rfl] at hD hS
    subst hD hS
    have d1:decide (1<=((cntS T (st0 T):Nat):Int))=true:=decide_eq_true (by omega)
    have d2:decide (((cntS T (st0 T):Nat):Int)<=((mstN T T.length:Nat):Int))=true:=decide_eq_true (by omega)
    by_cases hz:cntD T (st0 T)=0
    ·have hcan:=cntD_zero har.2 har.1.2 hs0 hz
     have hfin:finP T (st0 T):=⟨ha,hs0,hcan⟩
     rw [bdec_t hfin] at cF
     rw [hz]
     have d4:decide (0 < ((0:Nat):Int))=false:=rfl
     try simp (maxSteps:=9^9) only[go_sem]
     refine CondW_dec (fun hB=>by omega) (fun hB=>?_)
     try simp (maxSteps:=9^9) only[go_sem]
     repeat refine AI ?_
     repeat refine AI ?_
     refine cw cS ?_
     try simp (maxSteps:=9^9) only[go_sem]
     repeat refine AI ?_
     repeat refine AI ?_
     refine cw cA ?_
     try simp (maxSteps:=9^9) only[go_sem]
     repeat refine AI ?_
     try simp (maxSteps:=9^9) only[go_sem,d1,d2,d4]
     repeat refine AI ?_
     repeat refine AI ?_
     refine cw cF ?_
     try simp (maxSteps:=9^9) only[go_sem]
     all_goals repeat refine AI ?_
     all_goals first|kernel_rfl|omega|rfl
    ·have d3:decide (0 < ((cntD T (st0 T):Nat):Int))=true:=decide_eq_true (by omega)
     try simp (maxSteps:=9^9) only[go_sem]
     refine CondW_dec (fun hB=>by omega) (fun hB=>?_)
     try simp (maxSteps:=9^9) only[go_sem]
     repeat refine AI ?_
     repeat refine AI ?_
     refine cw cS ?_
     try simp (maxSteps:=9^9) only[go_sem]
     repeat refine AI ?_
     repeat refine AI ?_
     refine cw cA ?_
     try simp (maxSteps:=9^9) only[go_sem]
     repeat refine AI ?_
     try simp (maxSteps:=9^9) only[go_sem,d1,d2,d3]
     all_goals repeat refine AI ?_
     all_goals first|kernel_rfl|omega|rfl
set_option maxHeartbeats 4000000 in
theorem IsScheduleI_fn (l:List DT) (o:List Int):Fn Tryz.prog 16 [⟨.slice tTour,l⟩,⟨tInts,o⟩] false [⟨.bool,bdec (schP l o)⟩]:=by
 have c0:=AreToursI_fn l
 cases ha:arB l<;>rw [ha] at c0
 ·rw [bdec_f fun h=>by have:=h.1; rw [ha] at this; cases this]
  refine fe Tryz.func16 Tryz.ntmps16 Tryz.results16 fun hwf=>?_
  try simp (maxSteps:=9^9) only[go_sem]
  repeat refine AI ?_
  refine cw c0 ?_
  try simp (maxSteps:=9^9) only[go_sem]
  all_goals repeat refine AI ?_
  all_goals first|kernel_rfl|omega|rfl
 ·have har:=arB_p ha
  have c2:=newPlanner_fn l har.1
  have hs0:=stP_zero l
  have z0:∀ i,ni (List.replicate l.length 0) i=0:=fun i=>by
   by_cases h:i < (List.replicate l.length (0:Int)).length
   ·rw [ni_lt h]; simp
   ·exact ni_ge (by omega)
  refine fe Tryz.func16 Tryz.ntmps16 Tryz.results16 fun hwf=>?_
  have hol:o.length<=9223372036854775807:=(hwf ⟨tInts,o⟩ (by simp)).1
  try simp (maxSteps:=9^9) only[go_sem]
  repeat refine AI ?_
  refine cw c0 ?_
  try simp (maxSteps:=9^9) only[go_sem]
  repeat refine AI ?_
  repeat refine AI ?_
  refine CallW.np (c2) ?_
  try simp (maxSteps:=9^9) only[go_sem]
  repeat refine AI ?_
  refine LoopG.intro _ _ _ (fun y:Nat × List Int=>⟨[(0,.sl tTour l),(5,.ptr 0 0),(6,.ptr 2 0),(17,.sl .int o),(18,.sc (.int .i64 o.length)),(19,.sc (.int .i64 y.1))],[(0,.box (cel tPl0 (l,plT l)++[.row 1 0])),(1,.ob none 0 (.map [])),(2,.box (cel tState (s3 y.2)))]⟩) (fun y=>y.1<=o.length/\stP l y.2/\schGo l o (List.replicate l.length 0)=schGo l (o.drop y.1) y.2) (fun y=>o.length - y.1) (0,List.replicate l.length 0) ?_ ⟨Nat.zero_le _,stP_zero l,rfl⟩ ?_
  ·refine Wk.mk [] ?_
   try simp (maxSteps:=9^9) only[go_sem,z0]
   try (and_intros<;>first|rfl|omega|exact ⟨_,rfl⟩)
  ·rintro ⟨i,st⟩ ⟨hi,hst,hgo⟩
   dsimp only at hi hst hgo
   try simp (maxSteps:=9^9) only[go_sem]
   refine CondW_dec (fun hA=>?_) (fun hA=>?_)
   ·have hlt:i < o.length:=by omega
    rw [drop_nth hlt] at hgo
    have c1:=within_fn (ni o i) 0 ((l.length:Int) - 1)
    by_cases hk:0<=ni o i/\ni o i<=(l.length:Int) - 1
    ·rw [decide_eq_true hk] at c1
     have c3:=fun m=>plFm (advance_fn l har.1 st har.2 hst (ni o i).toNat (by omega)) m
     rw [show (((ni o i).toNat:Nat):Int)=ni o i by omega] at c3
     by_cases hf:frP l st (ni o i).toNat
     ·simp only [bdec_t hf,cond_true] at c3
      rw [schGo_t ⟨hk,hf⟩] at hgo
      try simp (maxSteps:=9^9) only[go_sem]
      repeat refine AI ?_
      repeat refine AI ?_
      refine cw c1 ?_
      try simp (maxSteps:=9^9) only[go_sem]
      repeat refine AI ?_
      refine CallW.h 1 (c3) ?_
      try simp (maxSteps:=9^9) only[go_sem]
      repeat refine AI ?_
      refine LoopK.mk (i+1,adv st (ni o i).toNat) ?_ (by exact ⟨by simp only; omega,stP_adv hst (by omega) hf.1,hgo⟩) (by simp only; omega)
      exact WK
     ·simp only [bdec_f hf,cond_false] at c3
      rw [schGo_f fun h=>hf h.2] at hgo
      rw [sch_no hgo]
      try simp (maxSteps:=9^9) only[go_sem]
      repeat refine AI ?_
      repeat refine AI ?_
      refine cw c1 ?_
      try simp (maxSteps:=9^9) only[go_sem]
      repeat refine AI ?_
      refine CallW.h 1 (c3) ?_
      try simp (maxSteps:=9^9) only[go_sem]
      all_goals repeat refine AI ?_
      all_goals first|kernel_rfl|omega|rfl
    ·rw [decide_eq_false hk] at c1
     rw [schGo_f fun h=>hk h.1] at hgo
     rw [sch_no hgo]
     try simp (maxSteps:=9^9) only[go_sem]
     repeat refine AI ?_
     repeat refine AI ?_
     refine cw c1 ?_
     try simp (maxSteps:=9^9) only[go_sem]
     all_goals repeat refine AI ?_
     all_goals first|kernel_rfl|omega|rfl
   ·have c3:=fun m=>plFm (isEnd_fn l har.1 st hst) m
    rw [List.drop_of_length_le (by omega)] at hgo
    rw [sch_bdec ha hgo]
    try simp (maxSteps:=9^9) only[go_sem]
    repeat refine AI ?_
    repeat refine AI ?_
    refine CallW.h 1 (c3) ?_
    try simp (maxSteps:=9^9) only[go_sem]
    all_goals repeat refine AI ?_
    all_goals first|kernel_rfl|omega|rfl
set_option maxHeartbeats 4000000 in
theorem lawFCoordinate_fn (code:List Int):Fn Tryz.prog 4 [⟨.slice .u8,code⟩] false [⟨.bool,true⟩]:=by
 by_cases hc:code.length<=1048576
 rotate_left
 ·have d0:decide (((1048576:Int)) < (code.length:Int))=true:=decide_eq_true (by omega)
  refine fe Tryz.func4 Tryz.ntmps4 Tryz.results4 fun hwf=>?_
  try simp (maxSteps:=9^9) only[go_sem,d0]
  all_goals repeat refine AI ?_
  all_goals first|kernel_rfl|omega|rfl
 have d0:decide (((1048576:Int)) < (code.length:Int))=false:=decide_eq_false (by omega)
 have cT:=MakeTours_fn hc
 have hT:=mkT_ok hc
 have hl:1<=(mkT code hc).length/\(mkT code hc).length<=3:=by
  have:=mtN_rng hc
  unfold mkT; rw [mtL_len]; exact this
 generalize mkT code hc=T at *
 have h8:∀ i,i < T.length->(nth (t:=tTour) T i).2.2.length<=8:=fun i hi=>by
  have h:=(hT (nth (t:=tTour) T i) (by rw [nth_lt hi]; exact List.getElem_mem _)).ok
  have:=(tour_parts h).2.2.2.1
  omega
 have htl:=totN_le h8
 have hte:=totN_e (l:=T)
 have hs0:stP T (st0 T):=stP_zero T
 have cO:=CoordinateI_fn T
 have cS:=CountStatesI_fn T
 have cF:=CanFinishI_fn T (st0 T)
 rw [fin_crd] at cF
 have cI:=IsScheduleI_fn T (crdL T)
 have tA:TrN (nth (t:=tTour) T 0):=hT _ (by rw [nth_lt (by omega)]; exact List.getElem_mem _)
 have va:=implIsValidTour_fn (nth (t:=tTour) T 0)
 rw [tA.ok] at va
 generalize hS:(if arB T=true then (cntS T (st0 T):Int) else -1)=nS at cS
 refine fe Tryz.func4 Tryz.ntmps4 Tryz.results4 fun hwf=>?_
 try simp (maxSteps:=9^9) only[go_sem,d0]
 repeat refine AI ?_
 refine cw cT ?_
 try simp (maxSteps:=9^9) only[go_sem]
 repeat refine AI ?_
 repeat refine AI ?_
 refine CallW.t (cO) ?_
 try simp (maxSteps:=9^9) only[go_sem]
 repeat refine AI ?_
 refine LoopG.intro _ _ _ (fun i:Nat=>⟨[(2,.sc (.bool false)),(3,.sl tTour T),(4,.row 0 0),(5,.sc (.bool (bdec (crdP T)))),(6,.row 1 0),(7,.sc (.int .i64 (totN T i:Nat))),(23,.sl tTour T),(24,.sc (.int .i64 T.length)),(25,.sc (.int .i64 i))],[(0,.mine .int (crdL T)),(1,.row 3 .int 0 true (List.replicate T.length 0))]⟩) (fun i=>i<=T.length) (fun i=>T.length - i) 0 ?_ (Nat.zero_le _) ?_
 ·exact WK
 ·rintro i hi
  try simp (maxSteps:=9^9) only[go_sem]
  refine CondW_dec (fun hA=>?_) (fun hA=>?_)
  ·have hia:i < T.length:=by omega
   have h8i:=h8 i hia
   have hs:=totN_s hia
   have h3i:=htl (i+1) hia
   try simp (maxSteps:=9^9) only[go_sem]
   repeat refine AI ?_
   refine LoopK.mk (i+1) ?_ (by omega) (by omega)
   exact WK
  ·obtain rfl:i=T.length:=by omega
   have h3i:=htl T.length (Nat.le_refl _)
   by_cases hc2:crdP T
   ·obtain ⟨f1,f2,f3⟩:=crd_facts hc2
    rw [bdec_t hc2] at cF ⊢
    rw [bdec_t f1] at cI
    rw [hc2.1,if_pos rfl] at hS
    subst hS
    rw [<-hte] at f2 f3
    have d1:decide (((crdL T).length:Int)=((totN T T.length:Nat):Int))=true:=decide_eq_true (by rw [f2])
    have d2:decide (((totN T T.length:Nat):Int)+1<=((cntS T (st0 T):Nat):Int))=true:=decide_eq_true (by omega)
    try simp (maxSteps:=9^9) only[go_sem]
    repeat refine AI ?_
    repeat refine AI ?_
    refine cw cF ?_
    try simp (maxSteps:=9^9) only[go_sem]
    repeat refine AI ?_
    repeat refine AI ?_
    refine CallW.mx (cI) ?_
    try simp (maxSteps:=9^9) only[go_sem]
    try simp (maxSteps:=9^9) only[go_sem,d1,d2]
    repeat refine AI ?_
    repeat refine AI ?_
    refine cw cS ?_
    try simp (maxSteps:=9^9) only[go_sem]
    repeat refine AI ?_
    try simp (maxSteps:=9^9) only[go_sem,d1,d2]
    all_goals repeat refine AI ?_
    all_goals first|kernel_rfl|omega|rfl
   ·have hcl:crdL T=[]:=by unfold crdL; rw [bdec_f hc2]; rfl
    rw [bdec_f hc2] at cF ⊢
    rw [hcl]
    have hn:¬ nS=0:=by
     cases ha:arB T
     ·rw [ha,if_neg (by decide)] at hS; omega
     ·have har:=arB_p ha
      have:=cntS_pos har.2 har.1.2 hs0
      rw [ha,if_pos rfl] at hS; omega
    have d1:=decide_eq_false hn
    have d3:decide (((0:Nat):Int)=0)=true:=rfl
    try simp (maxSteps:=9^9) only[go_sem]
    repeat refine AI ?_
    repeat refine AI ?_
    refine cw cF ?_
    try simp (maxSteps:=9^9) only[go_sem]
    repeat refine AI ?_
    repeat refine AI ?_
    refine cw cS ?_
    try simp (maxSteps:=9^9) only[go_sem]
    try simp (maxSteps:=9^9) only[go_sem,d1,d3]
    repeat refine AI ?_
    repeat refine AI ?_
    refine cw va ?_
    try simp (maxSteps:=9^9) only[go_sem]
    all_goals repeat refine AI ?_
    all_goals first|kernel_rfl|omega|rfl
end Go.Proofs.YtbnkojgcbmfloaaGreat.DW
