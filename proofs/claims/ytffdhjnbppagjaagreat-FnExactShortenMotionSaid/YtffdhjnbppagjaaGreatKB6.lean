/-
  Texts of a proof, one behind another: Dw68, Dw69, LwT, LwS, OpensS.
-/
import Derived.Test.YtffdhjnbppagjaaGreatKB5
set_option linter.all false
namespace Go.Proofs.YtffdhjnbppagjaaGreat.DW
open Go.RowKit
theorem opnB_f2 {s:DSc} {h:Int} (hh:¬ (0<=h/\h<=3)):opnB s h=false:=opnB_f1 (by unfold hdB; rw [decide_eq_false hh,Bool.and_false])
theorem fre_bad {s:DSc} {h:Int} {p:DP} (hp:okPt p=false):freB s h p=false:=by unfold freB; rw [hp,Bool.false_and]
theorem frm_bad1 {s:DSc} {h:Int} {p q:DP} (hp:okPt p=false):freM s h p q=false:=by unfold freM; rw [fre_bad hp,Bool.false_and]
theorem frm_bad2 {s:DSc} {h:Int} {p q:DP} (hq:okPt q=false):freM s h p q=false:=by unfold freM; rw [fre_bad hq,Bool.false_and,Bool.and_false]
set_option maxRecDepth 100000 in
set_option maxHeartbeats 2000000 in
theorem spsFree_fn (s:DSc) (h:Int) (p:DP):Fn Tryz.prog 101 [⟨.ext .ref tSpaces,some (spsD s)⟩,⟨.int,h⟩,⟨tPoint,p⟩] false [⟨.bool,freB s h p⟩]:=by
 have c1:=isHeading_fn h
 have c2:=arePoints1_fn p
 unfold spsD
 by_cases hh:0<=h/\h<=3
 rotate_left
 ·rw [decide_eq_false hh] at c1
  rw [freB_f (opnB_f2 hh)]
  refine fn_enter tabOK mixes Tryz.func101 rfl rfl _ Tryz.ntmps101 _ Tryz.results101 (by simp) fun hwf=>?_
  try simp (maxSteps:=9^9) only[go_sem]
  repeat refine And.intro (by first|omega|(constructor<;>omega)|kernel_rfl) ?_
  refine CallW.mk (c1) ?_
  try simp (maxSteps:=9^9) only[go_sem]
  repeat refine And.intro (by first|omega|(constructor<;>omega)|kernel_rfl) ?_
  all_goals repeat refine And.intro (by first|omega|(constructor<;>omega)|kernel_rfl) ?_
  all_goals first|kernel_rfl|omega|rfl
 rw [decide_eq_true hh] at c1
 cases hp:okPt p<;>rw [hp] at c2
 ·rw [fre_bad hp]
  refine fn_enter tabOK mixes Tryz.func101 rfl rfl _ Tryz.ntmps101 _ Tryz.results101 (by simp) fun hwf=>?_
  try simp (maxSteps:=9^9) only[go_sem]
  repeat refine And.intro (by first|omega|(constructor<;>omega)|kernel_rfl) ?_
  refine CallW.mk (c1) ?_
  try simp (maxSteps:=9^9) only[go_sem]
  repeat refine And.intro (by first|omega|(constructor<;>omega)|kernel_rfl) ?_
  refine CallW.mk (c2) ?_
  try simp (maxSteps:=9^9) only[go_sem]
  repeat refine And.intro (by first|omega|(constructor<;>omega)|kernel_rfl) ?_
  all_goals repeat refine And.intro (by first|omega|(constructor<;>omega)|kernel_rfl) ?_
  all_goals first|kernel_rfl|omega|rfl
 obtain rfl|rfl|rfl|rfl:h=0\/h=1\/h=2\/h=3:=by omega
 ·have c3:=isFreeI_fn s 0 p hp
  refine fn_enter tabOK mixes Tryz.func101 rfl rfl _ Tryz.ntmps101 _ Tryz.results101 (by simp) fun hwf=>?_
  try simp (maxSteps:=9^9) only[go_sem]
  repeat refine And.intro (by first|omega|(constructor<;>omega)|kernel_rfl) ?_
  refine CallW.mk (c1) ?_
  try simp (maxSteps:=9^9) only[go_sem]
  repeat refine And.intro (by first|omega|(constructor<;>omega)|kernel_rfl) ?_
  refine CallW.mk (c2) ?_
  try simp (maxSteps:=9^9) only[go_sem]
  repeat refine And.intro (by first|omega|(constructor<;>omega)|kernel_rfl) ?_
  refine CallW.mk (c3) ?_
  try simp (maxSteps:=9^9) only[go_sem]
  repeat refine And.intro (by first|omega|(constructor<;>omega)|kernel_rfl) ?_
  all_goals repeat refine And.intro (by first|omega|(constructor<;>omega)|kernel_rfl) ?_
  all_goals first|kernel_rfl|omega|rfl
 ·have c3:=isFreeI_fn s 1 p hp
  refine fn_enter tabOK mixes Tryz.func101 rfl rfl _ Tryz.ntmps101 _ Tryz.results101 (by simp) fun hwf=>?_
  try simp (maxSteps:=9^9) only[go_sem]
  repeat refine And.intro (by first|omega|(constructor<;>omega)|kernel_rfl) ?_
  refine CallW.mk (c1) ?_
  try simp (maxSteps:=9^9) only[go_sem]
  repeat refine And.intro (by first|omega|(constructor<;>omega)|kernel_rfl) ?_
  refine CallW.mk (c2) ?_
  try simp (maxSteps:=9^9) only[go_sem]
  repeat refine And.intro (by first|omega|(constructor<;>omega)|kernel_rfl) ?_
  refine CallW.mk (c3) ?_
  try simp (maxSteps:=9^9) only[go_sem]
  repeat refine And.intro (by first|omega|(constructor<;>omega)|kernel_rfl) ?_
  all_goals repeat refine And.intro (by first|omega|(constructor<;>omega)|kernel_rfl) ?_
  all_goals first|kernel_rfl|omega|rfl
 ·have c3:=isFreeI_fn s 2 p hp
  refine fn_enter tabOK mixes Tryz.func101 rfl rfl _ Tryz.ntmps101 _ Tryz.results101 (by simp) fun hwf=>?_
  try simp (maxSteps:=9^9) only[go_sem]
  repeat refine And.intro (by first|omega|(constructor<;>omega)|kernel_rfl) ?_
  refine CallW.mk (c1) ?_
  try simp (maxSteps:=9^9) only[go_sem]
  repeat refine And.intro (by first|omega|(constructor<;>omega)|kernel_rfl) ?_
  refine CallW.mk (c2) ?_
  try simp (maxSteps:=9^9) only[go_sem]
  repeat refine And.intro (by first|omega|(constructor<;>omega)|kernel_rfl) ?_
  refine CallW.mk (c3) ?_
  try simp (maxSteps:=9^9) only[go_sem]
  repeat refine And.intro (by first|omega|(constructor<;>omega)|kernel_rfl) ?_
  all_goals repeat refine And.intro (by first|omega|(constructor<;>omega)|kernel_rfl) ?_
  all_goals first|kernel_rfl|omega|rfl
 ·have c3:=isFreeI_fn s 3 p hp
  refine fn_enter tabOK mixes Tryz.func101 rfl rfl _ Tryz.ntmps101 _ Tryz.results101 (by simp) fun hwf=>?_
  try simp (maxSteps:=9^9) only[go_sem]
  repeat refine And.intro (by first|omega|(constructor<;>omega)|kernel_rfl) ?_
  refine CallW.mk (c1) ?_
  try simp (maxSteps:=9^9) only[go_sem]
  repeat refine And.intro (by first|omega|(constructor<;>omega)|kernel_rfl) ?_
  refine CallW.mk (c2) ?_
  try simp (maxSteps:=9^9) only[go_sem]
  repeat refine And.intro (by first|omega|(constructor<;>omega)|kernel_rfl) ?_
  refine CallW.mk (c3) ?_
  try simp (maxSteps:=9^9) only[go_sem]
  repeat refine And.intro (by first|omega|(constructor<;>omega)|kernel_rfl) ?_
  all_goals repeat refine And.intro (by first|omega|(constructor<;>omega)|kernel_rfl) ?_
  all_goals first|kernel_rfl|omega|rfl
set_option maxRecDepth 100000 in
set_option maxHeartbeats 2000000 in
theorem spsFreeMove_fn (s:DSc) (h:Int) (p q:DP):Fn Tryz.prog 113 [⟨.ext .ref tSpaces,some (spsD s)⟩,⟨.int,h⟩,⟨tPoint,p⟩,⟨tPoint,q⟩] false [⟨.bool,freM s h p q⟩]:=by
 have c1:=isHeading_fn h
 have c2:=arePoints2_fn p q
 unfold spsD
 by_cases hh:0<=h/\h<=3
 rotate_left
 ·rw [decide_eq_false hh] at c1
  rw [frm_f (opnB_f2 hh)]
  refine fn_enter tabOK mixes Tryz.func113 rfl rfl _ Tryz.ntmps113 _ Tryz.results113 (by simp) fun hwf=>?_
  try simp (maxSteps:=9^9) only[go_sem]
  repeat refine And.intro (by first|omega|(constructor<;>omega)|kernel_rfl) ?_
  refine CallW.mk (c1) ?_
  try simp (maxSteps:=9^9) only[go_sem]
  repeat refine And.intro (by first|omega|(constructor<;>omega)|kernel_rfl) ?_
  all_goals repeat refine And.intro (by first|omega|(constructor<;>omega)|kernel_rfl) ?_
  all_goals first|kernel_rfl|omega|rfl
 rw [decide_eq_true hh] at c1
 cases hp:okPt p
 ·rw [hp,Bool.false_and] at c2
  rw [frm_bad1 hp]
  refine fn_enter tabOK mixes Tryz.func113 rfl rfl _ Tryz.ntmps113 _ Tryz.results113 (by simp) fun hwf=>?_
  try simp (maxSteps:=9^9) only[go_sem]
  repeat refine And.intro (by first|omega|(constructor<;>omega)|kernel_rfl) ?_
  refine CallW.mk (c1) ?_
  try simp (maxSteps:=9^9) only[go_sem]
  repeat refine And.intro (by first|omega|(constructor<;>omega)|kernel_rfl) ?_
  refine CallW.mk (c2) ?_
  try simp (maxSteps:=9^9) only[go_sem]
  repeat refine And.intro (by first|omega|(constructor<;>omega)|kernel_rfl) ?_
  all_goals repeat refine And.intro (by first|omega|(constructor<;>omega)|kernel_rfl) ?_
  all_goals first|kernel_rfl|omega|rfl
 cases hq:okPt q
 ·rw [hp,hq,Bool.true_and] at c2
  rw [frm_bad2 hq]
  refine fn_enter tabOK mixes Tryz.func113 rfl rfl _ Tryz.ntmps113 _ Tryz.results113 (by simp) fun hwf=>?_
  try simp (maxSteps:=9^9) only[go_sem]
  repeat refine And.intro (by first|omega|(constructor<;>omega)|kernel_rfl) ?_
  refine CallW.mk (c1) ?_
  try simp (maxSteps:=9^9) only[go_sem]
  repeat refine And.intro (by first|omega|(constructor<;>omega)|kernel_rfl) ?_
  refine CallW.mk (c2) ?_
  try simp (maxSteps:=9^9) only[go_sem]
  repeat refine And.intro (by first|omega|(constructor<;>omega)|kernel_rfl) ?_
  all_goals repeat refine And.intro (by first|omega|(constructor<;>omega)|kernel_rfl) ?_
  all_goals first|kernel_rfl|omega|rfl
 rw [hp,hq,Bool.true_and] at c2
 obtain rfl|rfl|rfl|rfl:h=0\/h=1\/h=2\/h=3:=by omega
 ·have c3:=isFreeMoveI_fn s 0 p q hp hq
  refine fn_enter tabOK mixes Tryz.func113 rfl rfl _ Tryz.ntmps113 _ Tryz.results113 (by simp) fun hwf=>?_
  try simp (maxSteps:=9^9) only[go_sem]
  repeat refine And.intro (by first|omega|(constructor<;>omega)|kernel_rfl) ?_
  refine CallW.mk (c1) ?_
  try simp (maxSteps:=9^9) only[go_sem]
  repeat refine And.intro (by first|omega|(constructor<;>omega)|kernel_rfl) ?_
  refine CallW.mk (c2) ?_
  try simp (maxSteps:=9^9) only[go_sem]
  repeat refine And.intro (by first|omega|(constructor<;>omega)|kernel_rfl) ?_
  refine CallW.mk (c3) ?_
  try simp (maxSteps:=9^9) only[go_sem]
  repeat refine And.intro (by first|omega|(constructor<;>omega)|kernel_rfl) ?_
  all_goals repeat refine And.intro (by first|omega|(constructor<;>omega)|kernel_rfl) ?_
  all_goals first|kernel_rfl|omega|rfl
 ·have c3:=isFreeMoveI_fn s 1 p q hp hq
  refine fn_enter tabOK mixes Tryz.func113 rfl rfl _ Tryz.ntmps113 _ Tryz.results113 (by simp) fun hwf=>?_
  try simp (maxSteps:=9^9) only[go_sem]
  repeat refine And.intro (by first|omega|(constructor<;>omega)|kernel_rfl) ?_
  refine CallW.mk (c1) ?_
  try simp (maxSteps:=9^9) only[go_sem]
  repeat refine And.intro (by first|omega|(constructor<;>omega)|kernel_rfl) ?_
  refine CallW.mk (c2) ?_
  try simp (maxSteps:=9^9) only[go_sem]
  repeat refine And.intro (by first|omega|(constructor<;>omega)|kernel_rfl) ?_
  refine CallW.mk (c3) ?_
  try simp (maxSteps:=9^9) only[go_sem]
  repeat refine And.intro (by first|omega|(constructor<;>omega)|kernel_rfl) ?_
  all_goals repeat refine And.intro (by first|omega|(constructor<;>omega)|kernel_rfl) ?_
  all_goals first|kernel_rfl|omega|rfl
 ·have c3:=isFreeMoveI_fn s 2 p q hp hq
  refine fn_enter tabOK mixes Tryz.func113 rfl rfl _ Tryz.ntmps113 _ Tryz.results113 (by simp) fun hwf=>?_
  try simp (maxSteps:=9^9) only[go_sem]
  repeat refine And.intro (by first|omega|(constructor<;>omega)|kernel_rfl) ?_
  refine CallW.mk (c1) ?_
  try simp (maxSteps:=9^9) only[go_sem]
  repeat refine And.intro (by first|omega|(constructor<;>omega)|kernel_rfl) ?_
  refine CallW.mk (c2) ?_
  try simp (maxSteps:=9^9) only[go_sem]
  repeat refine And.intro (by first|omega|(constructor<;>omega)|kernel_rfl) ?_
  refine CallW.mk (c3) ?_
  try simp (maxSteps:=9^9) only[go_sem]
  repeat refine And.intro (by first|omega|(constructor<;>omega)|kernel_rfl) ?_
  all_goals repeat refine And.intro (by first|omega|(constructor<;>omega)|kernel_rfl) ?_
  all_goals first|kernel_rfl|omega|rfl
 ·have c3:=isFreeMoveI_fn s 3 p q hp hq
  refine fn_enter tabOK mixes Tryz.func113 rfl rfl _ Tryz.ntmps113 _ Tryz.results113 (by simp) fun hwf=>?_
  try simp (maxSteps:=9^9) only[go_sem]
  repeat refine And.intro (by first|omega|(constructor<;>omega)|kernel_rfl) ?_
  refine CallW.mk (c1) ?_
  try simp (maxSteps:=9^9) only[go_sem]
  repeat refine And.intro (by first|omega|(constructor<;>omega)|kernel_rfl) ?_
  refine CallW.mk (c2) ?_
  try simp (maxSteps:=9^9) only[go_sem]
  repeat refine And.intro (by first|omega|(constructor<;>omega)|kernel_rfl) ?_
  refine CallW.mk (c3) ?_
  try simp (maxSteps:=9^9) only[go_sem]
  repeat refine And.intro (by first|omega|(constructor<;>omega)|kernel_rfl) ?_
  all_goals repeat refine And.intro (by first|omega|(constructor<;>omega)|kernel_rfl) ?_
  all_goals first|kernel_rfl|omega|rfl
theorem rch_b {s:DSc} (hs:sceneB s=true):0<=rchD s/\rchD s<=1000000:=by
 have h1:=(scene_p hs).rob
 have h2:∀ i,i<=s.2.2.1.length->0<=rchI s.2.2.1 i/\rchI s.2.2.1 i<=800:=by
  intro i
  induction i with
  | zero=>intro _; unfold rchI; omega
  | succ i ih =>
   intro hi
   have h3:=ih (by omega)
   obtain ⟨b1,b2,b3,b4⟩:=inB_b (h1.ins _ (nth_mem (i:=i) (by omega)))
   have h4:=sqI_le (k:=20) b1 b2
   have h5:=sqI_le (k:=20) b3 b4
   have h6:=sq_nn (nth (t:=tVec) s.2.2.1 i).1
   have h7:=sq_nn (nth (t:=tVec) s.2.2.1 i).2
   unfold rchI
   omega
 have:=h2 _ (Nat.le_refl _)
 unfold rchD
 omega
def dsT (s:DSc) (v:DV):List Int:=[v.1 - s.1.1,s.2.1.1 - v.1,v.2 - s.1.2,s.2.1.2 - v.2]
noncomputable def obT (s:DSc) (v:DV):Bool:=s.2.2.2.1.any fun l=>discB l (ptV v) (rchD s)
theorem turn_eq (s:DSc) (v:DV):turnB s v=((dsT s v).all (rmB (rchD s)) && !obT s v):=by
 unfold turnB dsT obT
 simp only [List.all_cons,List.all_nil,Bool.and_true,Bool.and_assoc]
theorem dsT_b {s:DSc} (hs:sceneB s=true) {v:DV} (hv:inB 200 v=true):∀ d ∈ dsT s v,-400<=d/\d<=400:=by
 have h1:=inB_b (scene_p hs).low
 have h2:=inB_b (scene_p hs).high
 have h3:=inB_b hv
 unfold dsT
 intro d hd
 simp only [List.mem_cons,List.not_mem_nil,or_false] at hd
 omega
theorem inB_ok {v:DV} (h:inB 200 v=true):okV v=true:=by
 have:=inB_b h
 exact okV_of (by omega) (by omega) (by omega) (by omega)
theorem canTurnC_fn (l:List DV) (v:DV) (n:Int) (hl:polyP l) (hn:0<=n/\n<=1000000):Fn Tryz.prog 350 [⟨.slice tVec,l⟩,⟨.ext .ref tVec,some v⟩,⟨.ext .ref .int,some n⟩] false [⟨.bool,discB l (ptV v) n⟩]:=by
 have c1:=PointOfI_fn v
 have c2:=DiscTouchesI_fn l (ptV v) n hl hn
 refine fn_enter tabOK mixes Tryz.func350 rfl rfl _ Tryz.ntmps350 _ Tryz.results350 (by simp) fun hwf=>?_
 try simp (maxSteps:=9^9) only[go_sem]
 repeat refine And.intro (by first|omega|(constructor<;>omega)|kernel_rfl) ?_
 refine CallW.mk (c1) ?_
 try simp (maxSteps:=9^9) only[go_sem]
 repeat refine And.intro (by first|omega|(constructor<;>omega)|kernel_rfl) ?_
 refine CallW.mk (c2) ?_
 try simp (maxSteps:=9^9) only[go_sem]
 all_goals repeat refine And.intro (by first|omega|(constructor<;>omega)|kernel_rfl) ?_
 all_goals first|kernel_rfl|omega|rfl
set_option maxRecDepth 100000 in
set_option maxHeartbeats 2000000 in
theorem CanTurnI_fn (s:DSc) (v:DV) (hs:sceneB s=true) (hv:inB 200 v=true):Fn Tryz.prog 321 [⟨tScene,s⟩,⟨tVec,v⟩] false [⟨.bool,turnB s v⟩]:=by
 have c1:=IsValidSceneI_fn s
 rw [hs] at c1
 have c2:=isVec_fn v
 rw [inB_ok hv] at c2
 have hr:=rch_b hs
 have c3:=ReachSquareI_fn s.2.2.1 (scene_p hs).rob.poly
 rw [show rchI s.2.2.1 s.2.2.1.length=rchD s from rfl] at c3
 have hd:=dsT_b hs hv
 have h1:=inB_b (scene_p hs).low
 have h2:=inB_b (scene_p hs).high
 have h3:=inB_b hv
 have c4:=containsFunc_vsC_fn 350 (.prod (.ext .ref tVec) (.ext .ref .int)) (some v,some (rchD s)) (fun l=>discB l (ptV v) (rchD s)) s.2.2.2.1 (fun y hy=>canTurnC_fn y v _ ((scene_p hs).obs y hy).poly hr)
 rw [turn_eq]
 unfold obT
 refine fn_enter tabOK mixes Tryz.func321 rfl rfl _ Tryz.ntmps321 _ Tryz.results321 (by simp) fun hwf=>?_
 try simp (maxSteps:=9^9) only[go_sem]
 repeat refine And.intro (by first|omega|(constructor<;>omega)|kernel_rfl) ?_
 refine CallW.mk (c1) ?_
 try simp (maxSteps:=9^9) only[go_sem]
 repeat refine And.intro (by first|omega|(constructor<;>omega)|kernel_rfl) ?_
 refine CallW.mk (c2) ?_
 try simp (maxSteps:=9^9) only[go_sem]
 repeat refine And.intro (by first|omega|(constructor<;>omega)|kernel_rfl) ?_
 refine CallW.mk (c3) ?_
 try simp (maxSteps:=9^9) only[go_sem]
 repeat refine And.intro (by first|omega|(constructor<;>omega)|kernel_rfl) ?_
 refine LoopG.intro _ _ _ (fun i:Nat=>⟨[(2,.ptr 0 0),(3,.ptr 1 0),(5,.ptr 2 0),(43,.row 3 0),(44,.sc (.int .i64 4)),(45,.sc (.int .i64 i))],[(0,.box (cel tScene s)),(1,.box (cel tVec v)),(2,.box [.sc (.int .i64 (rchD s))]),(3,.row 3 .int 0 true (dsT s v))]⟩) (fun i=>i<=4/\∀ j,j < i->rmB (rchD s) (ni (dsT s v) j)=true) (fun i=>4 - i) 0 ?_ ⟨Nat.zero_le _,fun j h=>absurd h (Nat.not_lt_zero _)⟩ ?_
 ·unfold dsT
  refine Wk.mk [] ?_
  try simp (maxSteps:=9^9) only[go_sem]
  try (and_intros<;>first|rfl|omega|exact ⟨_,rfl⟩)
 ·rintro i ⟨hi,hall⟩
  have hlen:(dsT s v).length=4:=rfl
  try simp (maxSteps:=9^9) only[go_sem]
  refine CondW_dec (fun hA=>?_) (fun hA=>?_)
  ·have hlt:i < (dsT s v).length:=by omega
   have hb:=hd (ni (dsT s v) i) (by rw [ni_lt hlt]; exact List.getElem_mem hlt)
   have hm:=mul_bd (x:=ni (dsT s v) i) (y:=ni (dsT s v) i) (by omega) (by omega) (by omega) (by omega)
   by_cases e1:ni (dsT s v) i<=0
   ·have d1:=decide_eq_true e1
    have e:(dsT s v).all (rmB (rchD s))=false:=by
     rw [List.all_eq_false]
     refine ⟨ni (dsT s v) i,by rw [ni_lt hlt]; exact List.getElem_mem hlt,?_⟩
     unfold rmB
     rw [decide_eq_false (by omega),Bool.false_and]; decide
    rw [e,Bool.false_and]
    try simp (maxSteps:=9^9) only[go_sem,hlen]
    repeat refine And.intro (by first|omega|(constructor<;>omega)|kernel_rfl) ?_
    try simp (maxSteps:=9^9) only[go_sem,d1]
    all_goals repeat refine And.intro (by first|omega|(constructor<;>omega)|kernel_rfl) ?_
    all_goals first|kernel_rfl|omega|rfl
   ·have d1:=decide_eq_false e1
    by_cases e2:ni (dsT s v) i * ni (dsT s v) i<=rchD s
    ·have d2:=decide_eq_true e2
     have e:(dsT s v).all (rmB (rchD s))=false:=by
      rw [List.all_eq_false]
      refine ⟨ni (dsT s v) i,by rw [ni_lt hlt]; exact List.getElem_mem hlt,?_⟩
      unfold rmB
      rw [decide_eq_false (p:=rchD s < _) (by omega),Bool.and_false]; decide
     rw [e,Bool.false_and]
     try simp (maxSteps:=9^9) only[go_sem,hlen]
     repeat refine And.intro (by first|omega|(constructor<;>omega)|kernel_rfl) ?_
     try simp (maxSteps:=9^9) only[go_sem,d1]
     repeat refine And.intro (by first|omega|(constructor<;>omega)|kernel_rfl) ?_
     try simp (maxSteps:=9^9) only[go_sem,d2]
     all_goals repeat refine And.intro (by first|omega|(constructor<;>omega)|kernel_rfl) ?_
     all_goals first|kernel_rfl|omega|rfl
    ·have d2:=decide_eq_false e2
     try simp (maxSteps:=9^9) only[go_sem,hlen]
     repeat refine And.intro (by first|omega|(constructor<;>omega)|kernel_rfl) ?_
     try simp (maxSteps:=9^9) only[go_sem,d1]
     repeat refine And.intro (by first|omega|(constructor<;>omega)|kernel_rfl) ?_
     try simp (maxSteps:=9^9) only[go_sem,d2]
     repeat refine And.intro (by first|omega|(constructor<;>omega)|kernel_rfl) ?_
     refine LoopK.mk (i+1) ?_ ⟨by omega,fun j hj=>?_⟩ (by omega)
     ·refine Wk.mk [] ?_
      try simp (maxSteps:=9^9) only[go_sem]
      try (and_intros<;>first|rfl|omega|exact ⟨_,rfl⟩)
     ·by_cases h:j < i
      ·exact hall j h
      ·rw [show j=i by omega]
       unfold rmB
       rw [decide_eq_true (by omega),decide_eq_true (by omega)]; rfl
  ·have e:(dsT s v).all (rmB (rchD s))=true:=by
    rw [List.all_eq_true]
    intro d hdm
    obtain ⟨j,hj,rfl⟩:=List.getElem_of_mem hdm
    have:=hall j (by omega)
    rwa [ni_lt hj] at this
   rw [e,Bool.true_and]
   try simp (maxSteps:=9^9) only[go_sem]
   repeat refine And.intro (by first|omega|(constructor<;>omega)|kernel_rfl) ?_
   refine CallK.mk (c4) ?_
   try simp (maxSteps:=9^9) only[go_sem]
   all_goals repeat refine And.intro (by first|omega|(constructor<;>omega)|kernel_rfl) ?_
   all_goals first|kernel_rfl|omega|rfl
theorem l18Room_fn (r d:Int) (h:-400<=d/\d<=400):Fn Tryz.prog 347 [⟨.int,r⟩,⟨.int,d⟩] false [⟨.bool,rmB r d⟩]:=by
 have hm:=mul_bd (x:=d) (y:=d) (by omega) (by omega) (by omega) (by omega)
 unfold rmB
 by_cases e1:0 < d
 rotate_left
 ·rw [decide_eq_false e1]
  have d1:=decide_eq_false (p:=d > 0) (by omega)
  refine fn_enter tabOK mixes Tryz.func347 rfl rfl _ Tryz.ntmps347 _ Tryz.results347 (by simp) fun hwf=>?_
  try simp (maxSteps:=9^9) only[go_sem,d1]
  all_goals repeat refine And.intro (by first|omega|(constructor<;>omega)|kernel_rfl) ?_
  all_goals first|kernel_rfl|omega|rfl
 rw [decide_eq_true e1]
 have d1:=decide_eq_true (p:=d > 0) (by omega)
 by_cases e2:r < d * d
 ·rw [decide_eq_true e2]
  have d2:=decide_eq_true (p:=d * d > r) (by omega)
  refine fn_enter tabOK mixes Tryz.func347 rfl rfl _ Tryz.ntmps347 _ Tryz.results347 (by simp) fun hwf=>?_
  try simp (maxSteps:=9^9) only[go_sem,d1]
  repeat refine And.intro (by first|omega|(constructor<;>omega)|kernel_rfl) ?_
  try simp (maxSteps:=9^9) only[go_sem,d2]
  all_goals repeat refine And.intro (by first|omega|(constructor<;>omega)|kernel_rfl) ?_
  all_goals first|kernel_rfl|omega|rfl
 ·rw [decide_eq_false e2]
  have d2:=decide_eq_false (p:=d * d > r) (by omega)
  refine fn_enter tabOK mixes Tryz.func347 rfl rfl _ Tryz.ntmps347 _ Tryz.results347 (by simp) fun hwf=>?_
  try simp (maxSteps:=9^9) only[go_sem,d1]
  repeat refine And.intro (by first|omega|(constructor<;>omega)|kernel_rfl) ?_
  try simp (maxSteps:=9^9) only[go_sem,d2]
  all_goals repeat refine And.intro (by first|omega|(constructor<;>omega)|kernel_rfl) ?_
  all_goals first|kernel_rfl|omega|rfl
set_option maxRecDepth 100000 in
set_option maxHeartbeats 2000000 in
theorem CanTurnS_fn (s:DSc) (v:DV) (hs:sceneB s=true) (hv:inB 200 v=true):Fn Tryz.prog 317 [⟨tScene,s⟩,⟨tVec,v⟩] false [⟨.bool,turnB s v⟩]:=by
 have c0:=ReachSquareS_fn s.2.2.1 (scene_p hs).rob.poly
 rw [show rchI s.2.2.1 s.2.2.1.length=rchD s from rfl] at c0
 have c1:=IsValidSceneS_fn s
 rw [hs] at c1
 have c2:=IsValidVec_fn v
 rw [inB_ok hv] at c2
 have hr:=rch_b hs
 have h1:=inB_b (scene_p hs).low
 have h2:=inB_b (scene_p hs).high
 have h3:=inB_b hv
 have r0:=l18Room_fn (rchD s) (v.1 - s.1.1) (by omega)
 have r1:=l18Room_fn (rchD s) (s.2.1.1 - v.1) (by omega)
 have r2:=l18Room_fn (rchD s) (v.2 - s.1.2) (by omega)
 have r3:=l18Room_fn (rchD s) (s.2.1.2 - v.2) (by omega)
 unfold turnB
 cases e0:rmB (rchD s) (v.1 - s.1.1)<;>rw [e0] at r0
 ·skip
  refine fn_enter tabOK mixes Tryz.func317 rfl rfl _ Tryz.ntmps317 _ Tryz.results317 (by simp) fun hwf=>?_
  try simp (maxSteps:=9^9) only[go_sem]
  repeat refine And.intro (by first|omega|(constructor<;>omega)|kernel_rfl) ?_
  refine CallW.mk (c0) ?_
  try simp (maxSteps:=9^9) only[go_sem]
  repeat refine And.intro (by first|omega|(constructor<;>omega)|kernel_rfl) ?_
  refine CallW.mk (c1) ?_
  try simp (maxSteps:=9^9) only[go_sem]
  repeat refine And.intro (by first|omega|(constructor<;>omega)|kernel_rfl) ?_
  refine CallW.mk (c2) ?_
  try simp (maxSteps:=9^9) only[go_sem]
  repeat refine And.intro (by first|omega|(constructor<;>omega)|kernel_rfl) ?_
  refine CallW.mk (r0) ?_
  try simp (maxSteps:=9^9) only[go_sem]
  repeat refine And.intro (by first|omega|(constructor<;>omega)|kernel_rfl) ?_
  all_goals repeat refine And.intro (by first|omega|(constructor<;>omega)|kernel_rfl) ?_
  all_goals first|kernel_rfl|omega|rfl
 cases e1:rmB (rchD s) (s.2.1.1 - v.1)<;>rw [e1] at r1
 ·skip
  refine fn_enter tabOK mixes Tryz.func317 rfl rfl _ Tryz.ntmps317 _ Tryz.results317 (by simp) fun hwf=>?_
  try simp (maxSteps:=9^9) only[go_sem]
  repeat refine And.intro (by first|omega|(constructor<;>omega)|kernel_rfl) ?_
  refine CallW.mk (c0) ?_
  try simp (maxSteps:=9^9) only[go_sem]
  repeat refine And.intro (by first|omega|(constructor<;>omega)|kernel_rfl) ?_
  refine CallW.mk (c1) ?_
  try simp (maxSteps:=9^9) only[go_sem]
  repeat refine And.intro (by first|omega|(constructor<;>omega)|kernel_rfl) ?_
  refine CallW.mk (c2) ?_
  try simp (maxSteps:=9^9) only[go_sem]
  repeat refine And.intro (by first|omega|(constructor<;>omega)|kernel_rfl) ?_
  refine CallW.mk (r0) ?_
  try simp (maxSteps:=9^9) only[go_sem]
  repeat refine And.intro (by first|omega|(constructor<;>omega)|kernel_rfl) ?_
  refine CallW.mk (r1) ?_
  try simp (maxSteps:=9^9) only[go_sem]
  repeat refine And.intro (by first|omega|(constructor<;>omega)|kernel_rfl) ?_
  all_goals repeat refine And.intro (by first|omega|(constructor<;>omega)|kernel_rfl) ?_
  all_goals first|kernel_rfl|omega|rfl
 cases e2:rmB (rchD s) (v.2 - s.1.2)<;>rw [e2] at r2
 ·skip
  refine fn_enter tabOK mixes Tryz.func317 rfl rfl _ Tryz.ntmps317 _ Tryz.results317 (by simp) fun hwf=>?_
  try simp (maxSteps:=9^9) only[go_sem]
  repeat refine And.intro (by first|omega|(constructor<;>omega)|kernel_rfl) ?_
  refine CallW.mk (c0) ?_
  try simp (maxSteps:=9^9) only[go_sem]
  repeat refine And.intro (by first|omega|(constructor<;>omega)|kernel_rfl) ?_
  refine CallW.mk (c1) ?_
  try simp (maxSteps:=9^9) only[go_sem]
  repeat refine And.intro (by first|omega|(constructor<;>omega)|kernel_rfl) ?_
  refine CallW.mk (c2) ?_
  try simp (maxSteps:=9^9) only[go_sem]
  repeat refine And.intro (by first|omega|(constructor<;>omega)|kernel_rfl) ?_
  refine CallW.mk (r0) ?_
  try simp (maxSteps:=9^9) only[go_sem]
  repeat refine And.intro (by first|omega|(constructor<;>omega)|kernel_rfl) ?_
  refine CallW.mk (r1) ?_
  try simp (maxSteps:=9^9) only[go_sem]
  repeat refine And.intro (by first|omega|(constructor<;>omega)|kernel_rfl) ?_
  refine CallW.mk (r2) ?_
  try simp (maxSteps:=9^9) only[go_sem]
  repeat refine And.intro (by first|omega|(constructor<;>omega)|kernel_rfl) ?_
  all_goals repeat refine And.intro (by first|omega|(constructor<;>omega)|kernel_rfl) ?_
  all_goals first|kernel_rfl|omega|rfl
 cases e3:rmB (rchD s) (s.2.1.2 - v.2)<;>rw [e3] at r3
 ·skip
  refine fn_enter tabOK mixes Tryz.func317 rfl rfl _ Tryz.ntmps317 _ Tryz.results317 (by simp) fun hwf=>?_
  try simp (maxSteps:=9^9) only[go_sem]
  repeat refine And.intro (by first|omega|(constructor<;>omega)|kernel_rfl) ?_
  refine CallW.mk (c0) ?_
  try simp (maxSteps:=9^9) only[go_sem]
  repeat refine And.intro (by first|omega|(constructor<;>omega)|kernel_rfl) ?_
  refine CallW.mk (c1) ?_
  try simp (maxSteps:=9^9) only[go_sem]
  repeat refine And.intro (by first|omega|(constructor<;>omega)|kernel_rfl) ?_
  refine CallW.mk (c2) ?_
  try simp (maxSteps:=9^9) only[go_sem]
  repeat refine And.intro (by first|omega|(constructor<;>omega)|kernel_rfl) ?_
  refine CallW.mk (r0) ?_
  try simp (maxSteps:=9^9) only[go_sem]
  repeat refine And.intro (by first|omega|(constructor<;>omega)|kernel_rfl) ?_
  refine CallW.mk (r1) ?_
  try simp (maxSteps:=9^9) only[go_sem]
  repeat refine And.intro (by first|omega|(constructor<;>omega)|kernel_rfl) ?_
  refine CallW.mk (r2) ?_
  try simp (maxSteps:=9^9) only[go_sem]
  repeat refine And.intro (by first|omega|(constructor<;>omega)|kernel_rfl) ?_
  refine CallW.mk (r3) ?_
  try simp (maxSteps:=9^9) only[go_sem]
  repeat refine And.intro (by first|omega|(constructor<;>omega)|kernel_rfl) ?_
  all_goals repeat refine And.intro (by first|omega|(constructor<;>omega)|kernel_rfl) ?_
  all_goals first|kernel_rfl|omega|rfl
 refine fn_enter tabOK mixes Tryz.func317 rfl rfl _ Tryz.ntmps317 _ Tryz.results317 (by simp) fun hwf=>?_
 try simp (maxSteps:=9^9) only[go_sem]
 repeat refine And.intro (by first|omega|(constructor<;>omega)|kernel_rfl) ?_
 refine CallW.mk (c0) ?_
 try simp (maxSteps:=9^9) only[go_sem]
 repeat refine And.intro (by first|omega|(constructor<;>omega)|kernel_rfl) ?_
 refine CallW.mk (c1) ?_
 try simp (maxSteps:=9^9) only[go_sem]
 repeat refine And.intro (by first|omega|(constructor<;>omega)|kernel_rfl) ?_
 refine CallW.mk (c2) ?_
 try simp (maxSteps:=9^9) only[go_sem]
 repeat refine And.intro (by first|omega|(constructor<;>omega)|kernel_rfl) ?_
 refine CallW.mk (r0) ?_
 try simp (maxSteps:=9^9) only[go_sem]
 repeat refine And.intro (by first|omega|(constructor<;>omega)|kernel_rfl) ?_
 refine CallW.mk (r1) ?_
 try simp (maxSteps:=9^9) only[go_sem]
 repeat refine And.intro (by first|omega|(constructor<;>omega)|kernel_rfl) ?_
 refine CallW.mk (r2) ?_
 try simp (maxSteps:=9^9) only[go_sem]
 repeat refine And.intro (by first|omega|(constructor<;>omega)|kernel_rfl) ?_
 refine CallW.mk (r3) ?_
 try simp (maxSteps:=9^9) only[go_sem]
 repeat refine And.intro (by first|omega|(constructor<;>omega)|kernel_rfl) ?_
 have hob:=(scene_p hs).nobs
 refine LoopG.intro _ _ _ (fun i:Nat=>⟨[(3,.ptr 1 0),(5,.sc (.int .i64 (rchD s))),(64,.sl (.slice tVec) s.2.2.2.1),(65,.sc (.int .i64 s.2.2.2.1.length)),(66,.sc (.int .i64 i))],[(1,.box (cel tVec v))]⟩) (fun i=>∀ j,j < i->j < s.2.2.2.1.length->discB (nth (t:=.slice tVec) s.2.2.2.1 j) (ptV v) (rchD s)=false) (fun i=>s.2.2.2.1.length - i) 0 ?_ (fun j h=>absurd h (Nat.not_lt_zero _)) ?_
 ·refine Wk.mk [] ?_
  try simp (maxSteps:=9^9) only[go_sem]
  try (and_intros<;>first|rfl|omega|exact ⟨_,rfl⟩)
 ·rintro i hi
  have c3:=PointOfS_fn v
  try simp (maxSteps:=9^9) only[go_sem]
  refine CondW_dec (fun hA=>?_) (fun hA=>?_)
  ·have c4:=DiscTouchesS_fn (nth (t:=.slice tVec) s.2.2.2.1 i) (ptV v) (rchD s) ((scene_p hs).obs _ (nth_memT (t:=.slice tVec) (by omega))).poly hr
   cases hd:discB (nth (t:=.slice tVec) s.2.2.2.1 i) (ptV v) (rchD s)<;>rw [hd] at c4
   ·try simp (maxSteps:=9^9) only[go_sem]
    repeat refine And.intro (by first|omega|(constructor<;>omega)|kernel_rfl) ?_
    refine CallW.mk (c3) ?_
    try simp (maxSteps:=9^9) only[go_sem]
    repeat refine And.intro (by first|omega|(constructor<;>omega)|kernel_rfl) ?_
    refine CallW.mk (c4) ?_
    try simp (maxSteps:=9^9) only[go_sem]
    repeat refine And.intro (by first|omega|(constructor<;>omega)|kernel_rfl) ?_
    refine LoopK.mk (i+1) ?_ (fun j h1 h2=>?_) (by omega)
    ·refine Wk.mk [] ?_
     try simp (maxSteps:=9^9) only[go_sem]
     try (and_intros<;>first|rfl|omega|exact ⟨_,rfl⟩)
    ·by_cases h3:j < i
     ·exact hi j h3 h2
     ·rw [show j=i by omega]; exact hd
   ·rw [any_t (t:=.slice tVec) (p:=fun l=>discB l (ptV v) (rchD s)) (i:=i) (by omega) hd]
    try simp (maxSteps:=9^9) only[go_sem]
    repeat refine And.intro (by first|omega|(constructor<;>omega)|kernel_rfl) ?_
    refine CallW.mk (c3) ?_
    try simp (maxSteps:=9^9) only[go_sem]
    repeat refine And.intro (by first|omega|(constructor<;>omega)|kernel_rfl) ?_
    refine CallW.mk (c4) ?_
    try simp (maxSteps:=9^9) only[go_sem]
    all_goals repeat refine And.intro (by first|omega|(constructor<;>omega)|kernel_rfl) ?_
    all_goals first|kernel_rfl|omega|rfl
  ·rw [any_f (t:=.slice tVec) (p:=fun l=>discB l (ptV v) (rchD s)) fun j hj=>hi j (by omega) hj]
   try simp (maxSteps:=9^9) only[go_sem]
   all_goals repeat refine And.intro (by first|omega|(constructor<;>omega)|kernel_rfl) ?_
   all_goals first|kernel_rfl|omega|rfl
set_option maxRecDepth 100000 in
set_option maxHeartbeats 1000000 in
theorem OpenTablesI_fn (s:DSc) (hs:sceneB s=true):Fn Tryz.prog 266 [⟨tScene,s⟩] true [⟨tInts,otD s⟩]:=by
 have c1:=IsValidSceneI_fn s
 rw [hs] at c1
 have hnt:=(scene_p hs).ntab
 refine fn_enter tabOK mixes Tryz.func266 rfl rfl _ Tryz.ntmps266 _ Tryz.results266 (by simp) fun hwf=>?_
 try simp (maxSteps:=9^9) only[go_sem]
 repeat refine And.intro (by first|omega|(constructor<;>omega)|kernel_rfl) ?_
 refine CallW.mk (c1) ?_
 try simp (maxSteps:=9^9) only[go_sem]
 repeat refine And.intro (by first|omega|(constructor<;>omega)|kernel_rfl) ?_
 refine LoopG.intro _ _ _ (fun i:Nat=>⟨[(1,.ptr 0 0),(3,.row 1 0),(11,.sl tVec s.2.2.2.2),(12,.sc (.int .i64 s.2.2.2.2.length)),(13,.sc (.int .i64 i))],[(0,.box (cel tScene s)),(1,.row 3 .int 0 true (otI s i))]⟩) (fun i=>i<=s.2.2.2.2.length) (fun i=>s.2.2.2.2.length - i) 0 ?_ (Nat.zero_le _) ?_
 ·refine Wk.mk [] ?_
  try simp (maxSteps:=9^9) only[go_sem]
  try (and_intros<;>first|rfl|omega|exact ⟨_,rfl⟩)
 ·rintro i hi
  have hol:=otI_len s i
  try simp (maxSteps:=9^9) only[go_sem]
  refine CondW_dec (fun hA=>?_) (fun hA=>?_)
  ·have hlt:i < s.2.2.2.2.length:=by omega
   have c2:=CanTurnI_fn s (nth (t:=tVec) s.2.2.2.2 i) hs ((scene_p hs).tabs _ (nth_mem hlt))
   cases ht:turnB s (nth (t:=tVec) s.2.2.2.2 i)<;>rw [ht] at c2
   ·try simp (maxSteps:=9^9) only[go_sem]
    repeat refine And.intro (by first|omega|(constructor<;>omega)|kernel_rfl) ?_
    refine CallW.mk (c2) ?_
    try simp (maxSteps:=9^9) only[go_sem]
    repeat refine And.intro (by first|omega|(constructor<;>omega)|kernel_rfl) ?_
    refine LoopK.mk (i+1) ?_ (by omega) (by omega)
    rw [show otI s (i+1)=otI s i from if_neg (by rw [ht]; decide)]
    refine Wk.mk [] ?_
    try simp (maxSteps:=9^9) only[go_sem]
    try (and_intros<;>first|rfl|omega|exact ⟨_,rfl⟩)
   ·try simp (maxSteps:=9^9) only[go_sem]
    repeat refine And.intro (by first|omega|(constructor<;>omega)|kernel_rfl) ?_
    refine CallW.mk (c2) ?_
    try simp (maxSteps:=9^9) only[go_sem]
    repeat refine And.intro (by first|omega|(constructor<;>omega)|kernel_rfl) ?_
    refine LoopK.mk (i+1) ?_ (by omega) (by omega)
    rw [show otI s (i+1)=otI s i++[(i:Int)] from if_pos ht]
    refine Wk.mk [] ?_
    try simp (maxSteps:=9^9) only[go_sem]
    try (and_intros<;>first|rfl|omega|exact ⟨_,rfl⟩)
  ·rw [show otD s=otI s i by unfold otD; rw [show i=s.2.2.2.2.length by omega]]
   try simp (maxSteps:=9^9) only[go_sem]
   all_goals repeat refine And.intro (by first|omega|(constructor<;>omega)|kernel_rfl) ?_
   all_goals first|kernel_rfl|omega|rfl
set_option maxRecDepth 100000 in
set_option maxHeartbeats 1000000 in
theorem OpenTablesS_fn (s:DSc) (hs:sceneB s=true):Fn Tryz.prog 257 [⟨tScene,s⟩] true [⟨tInts,otD s⟩]:=by
 have c1:=IsValidSceneS_fn s
 rw [hs] at c1
 have hnt:=(scene_p hs).ntab
 refine fn_enter tabOK mixes Tryz.func257 rfl rfl _ Tryz.ntmps257 _ Tryz.results257 (by simp) fun hwf=>?_
 try simp (maxSteps:=9^9) only[go_sem]
 repeat refine And.intro (by first|omega|(constructor<;>omega)|kernel_rfl) ?_
 refine CallW.mk (c1) ?_
 try simp (maxSteps:=9^9) only[go_sem]
 repeat refine And.intro (by first|omega|(constructor<;>omega)|kernel_rfl) ?_
 refine LoopG.intro _ _ _ (fun i:Nat=>⟨[(1,.ptr 0 0),(3,.row 1 0),(11,.sl tVec s.2.2.2.2),(12,.sc (.int .i64 s.2.2.2.2.length)),(13,.sc (.int .i64 i))],[(0,.box (cel tScene s)),(1,.row 3 .int 0 true (otI s i))]⟩) (fun i=>i<=s.2.2.2.2.length) (fun i=>s.2.2.2.2.length - i) 0 ?_ (Nat.zero_le _) ?_
 ·refine Wk.mk [] ?_
  try simp (maxSteps:=9^9) only[go_sem]
  try (and_intros<;>first|rfl|omega|exact ⟨_,rfl⟩)
 ·rintro i hi
  have hol:=otI_len s i
  try simp (maxSteps:=9^9) only[go_sem]
  refine CondW_dec (fun hA=>?_) (fun hA=>?_)
  ·have hlt:i < s.2.2.2.2.length:=by omega
   have c2:=CanTurnS_fn s (nth (t:=tVec) s.2.2.2.2 i) hs ((scene_p hs).tabs _ (nth_mem hlt))
   cases ht:turnB s (nth (t:=tVec) s.2.2.2.2 i)<;>rw [ht] at c2
   ·try simp (maxSteps:=9^9) only[go_sem]
    repeat refine And.intro (by first|omega|(constructor<;>omega)|kernel_rfl) ?_
    refine CallW.mk (c2) ?_
    try simp (maxSteps:=9^9) only[go_sem]
    repeat refine And.intro (by first|omega|(constructor<;>omega)|kernel_rfl) ?_
    refine LoopK.mk (i+1) ?_ (by omega) (by omega)
    rw [show otI s (i+1)=otI s i from if_neg (by rw [ht]; decide)]
    refine Wk.mk [] ?_
    try simp (maxSteps:=9^9) only[go_sem]
    try (and_intros<;>first|rfl|omega|exact ⟨_,rfl⟩)
   ·try simp (maxSteps:=9^9) only[go_sem]
    repeat refine And.intro (by first|omega|(constructor<;>omega)|kernel_rfl) ?_
    refine CallW.mk (c2) ?_
    try simp (maxSteps:=9^9) only[go_sem]
    repeat refine And.intro (by first|omega|(constructor<;>omega)|kernel_rfl) ?_
    refine LoopK.mk (i+1) ?_ (by omega) (by omega)
    rw [show otI s (i+1)=otI s i++[(i:Int)] from if_pos ht]
    refine Wk.mk [] ?_
    try simp (maxSteps:=9^9) only[go_sem]
    try (and_intros<;>first|rfl|omega|exact ⟨_,rfl⟩)
  ·rw [show otD s=otI s i by unfold otD; rw [show i=s.2.2.2.2.length by omega]]
   try simp (maxSteps:=9^9) only[go_sem]
   all_goals repeat refine And.intro (by first|omega|(constructor<;>omega)|kernel_rfl) ?_
   all_goals first|kernel_rfl|omega|rfl
theorem tbGo_at {s:DSc} {p:DP} {l:List Int} {i:Nat} (h:i < l.length):tbGo s p (l.drop i)=if eqb (ptV (nth (t:=tVec) s.2.2.2.2 (ni l i).toNat)) p then ni l i else tbGo s p (l.drop (i+1)):=by
 rw [List.drop_eq_getElem_cons h,ni_lt h]; rfl
theorem otD_mem {s:DSc} {i:Nat} (h:i < (otD s).length):0<=ni (otD s) i/\ni (otD s) i < s.2.2.2.2.length:=by
 rw [ni_lt h]
 exact otI_mem (List.getElem_mem h)
set_option maxRecDepth 100000 in
set_option maxHeartbeats 1000000 in
theorem TableAtI_fn (s:DSc) (p:DP) (hs:sceneB s=true):Fn Tryz.prog 188 [⟨tScene,s⟩,⟨tPoint,p⟩] false [⟨.int,tbA s p⟩]:=by
 have c1:=(OpenTablesI_fn s hs).sh
 have hnt:=otI_len s s.2.2.2.2.length
 have hn3:=(scene_p hs).ntab
 rw [show otI s s.2.2.2.2.length=otD s from rfl] at hnt
 unfold tbA
 refine fn_enter tabOK mixes Tryz.func188 rfl rfl _ Tryz.ntmps188 _ Tryz.results188 (by simp) fun hwf=>?_
 try simp (maxSteps:=9^9) only[go_sem]
 repeat refine And.intro (by first|omega|(constructor<;>omega)|kernel_rfl) ?_
 refine CallW.mk (c1) ?_
 try simp (maxSteps:=9^9) only[go_sem]
 repeat refine And.intro (by first|omega|(constructor<;>omega)|kernel_rfl) ?_
 refine LoopG.intro _ _ _ (fun i:Nat=>⟨[(2,.ptr 0 0),(3,.ptr 1 0),(8,.sl .int (otD s)),(9,.sc (.int .i64 (otD s).length)),(10,.sc (.int .i64 i))],[(0,.box (cel tScene s)),(1,.box (cel tPoint p))]⟩) (fun i=>i<=(otD s).length/\tbGo s p (otD s)=tbGo s p ((otD s).drop i)) (fun i=>(otD s).length - i) 0 ?_ ⟨Nat.zero_le _,rfl⟩ ?_
 ·refine Wk.mk [] ?_
  try simp (maxSteps:=9^9) only[go_sem]
  try (and_intros<;>first|rfl|omega|exact ⟨_,rfl⟩)
 ·rintro i ⟨hi,hgo⟩
  try simp (maxSteps:=9^9) only[go_sem]
  refine CondW_dec (fun hA=>?_) (fun hA=>?_)
  ·have hlt:i < (otD s).length:=by omega
   have hm:=otD_mem hlt
   rw [tbGo_at hlt] at hgo
   have c2:=PointOfI_fn (nth (t:=tVec) s.2.2.2.2 (ni (otD s) i).toNat)
   have c3:=implSame_fn (ptV (nth (t:=tVec) s.2.2.2.2 (ni (otD s) i).toNat)) p
   cases he:eqb (ptV (nth (t:=tVec) s.2.2.2.2 (ni (otD s) i).toNat)) p<;>rw [he] at c3 hgo
   ·rw [if_neg (by decide)] at hgo
    try simp (maxSteps:=9^9) only[go_sem]
    repeat refine And.intro (by first|omega|(constructor<;>omega)|kernel_rfl) ?_
    refine CallW.mk (c2) ?_
    try simp (maxSteps:=9^9) only[go_sem]
    repeat refine And.intro (by first|omega|(constructor<;>omega)|kernel_rfl) ?_
    refine CallW.mk (c3) ?_
    try simp (maxSteps:=9^9) only[go_sem]
    repeat refine And.intro (by first|omega|(constructor<;>omega)|kernel_rfl) ?_
    refine LoopK.mk (i+1) ?_ ⟨by omega,hgo⟩ (by omega)
    refine Wk.mk [] ?_
    try simp (maxSteps:=9^9) only[go_sem]
    try (and_intros<;>first|rfl|omega|exact ⟨_,rfl⟩)
   ·rw [if_pos rfl] at hgo
    rw [hgo]
    try simp (maxSteps:=9^9) only[go_sem]
    repeat refine And.intro (by first|omega|(constructor<;>omega)|kernel_rfl) ?_
    refine CallW.mk (c2) ?_
    try simp (maxSteps:=9^9) only[go_sem]
    repeat refine And.intro (by first|omega|(constructor<;>omega)|kernel_rfl) ?_
    refine CallW.mk (c3) ?_
    try simp (maxSteps:=9^9) only[go_sem]
    all_goals repeat refine And.intro (by first|omega|(constructor<;>omega)|kernel_rfl) ?_
    all_goals first|kernel_rfl|omega|rfl
  ·rw [List.drop_of_length_le (by omega)] at hgo
   rw [hgo]
   try simp (maxSteps:=9^9) only[go_sem]
   all_goals repeat refine And.intro (by first|omega|(constructor<;>omega)|kernel_rfl) ?_
   all_goals first|kernel_rfl|omega|rfl
set_option maxRecDepth 100000 in
set_option maxHeartbeats 1000000 in
theorem TableAtS_fn (s:DSc) (p:DP) (hs:sceneB s=true):Fn Tryz.prog 177 [⟨tScene,s⟩,⟨tPoint,p⟩] false [⟨.int,tbA s p⟩]:=by
 have c1:=(OpenTablesS_fn s hs).sh
 have hnt:=otI_len s s.2.2.2.2.length
 have hn3:=(scene_p hs).ntab
 rw [show otI s s.2.2.2.2.length=otD s from rfl] at hnt
 unfold tbA
 refine fn_enter tabOK mixes Tryz.func177 rfl rfl _ Tryz.ntmps177 _ Tryz.results177 (by simp) fun hwf=>?_
 try simp (maxSteps:=9^9) only[go_sem]
 repeat refine And.intro (by first|omega|(constructor<;>omega)|kernel_rfl) ?_
 refine CallW.mk (c1) ?_
 try simp (maxSteps:=9^9) only[go_sem]
 repeat refine And.intro (by first|omega|(constructor<;>omega)|kernel_rfl) ?_
 refine LoopG.intro _ _ _ (fun i:Nat=>⟨[(2,.ptr 0 0),(3,.ptr 1 0),(8,.sl .int (otD s)),(9,.sc (.int .i64 (otD s).length)),(10,.sc (.int .i64 i))],[(0,.box (cel tScene s)),(1,.box (cel tPoint p))]⟩) (fun i=>i<=(otD s).length/\tbGo s p (otD s)=tbGo s p ((otD s).drop i)) (fun i=>(otD s).length - i) 0 ?_ ⟨Nat.zero_le _,rfl⟩ ?_
 ·refine Wk.mk [] ?_
  try simp (maxSteps:=9^9) only[go_sem]
  try (and_intros<;>first|rfl|omega|exact ⟨_,rfl⟩)
 ·rintro i ⟨hi,hgo⟩
  try simp (maxSteps:=9^9) only[go_sem]
  refine CondW_dec (fun hA=>?_) (fun hA=>?_)
  ·have hlt:i < (otD s).length:=by omega
   have hm:=otD_mem hlt
   rw [tbGo_at hlt] at hgo
   have c2:=PointOfS_fn (nth (t:=tVec) s.2.2.2.2 (ni (otD s) i).toNat)
   have c3:=specSame_fn (ptV (nth (t:=tVec) s.2.2.2.2 (ni (otD s) i).toNat)) p
   cases he:eqb (ptV (nth (t:=tVec) s.2.2.2.2 (ni (otD s) i).toNat)) p<;>rw [he] at c3 hgo
   ·rw [if_neg (by decide)] at hgo
    try simp (maxSteps:=9^9) only[go_sem]
    repeat refine And.intro (by first|omega|(constructor<;>omega)|kernel_rfl) ?_
    refine CallW.mk (c2) ?_
    try simp (maxSteps:=9^9) only[go_sem]
    repeat refine And.intro (by first|omega|(constructor<;>omega)|kernel_rfl) ?_
    refine CallW.mk (c3) ?_
    try simp (maxSteps:=9^9) only[go_sem]
    repeat refine And.intro (by first|omega|(constructor<;>omega)|kernel_rfl) ?_
    refine LoopK.mk (i+1) ?_ ⟨by omega,hgo⟩ (by omega)
    refine Wk.mk [] ?_
    try simp (maxSteps:=9^9) only[go_sem]
    try (and_intros<;>first|rfl|omega|exact ⟨_,rfl⟩)
   ·rw [if_pos rfl] at hgo
    rw [hgo]
    try simp (maxSteps:=9^9) only[go_sem]
    repeat refine And.intro (by first|omega|(constructor<;>omega)|kernel_rfl) ?_
    refine CallW.mk (c2) ?_
    try simp (maxSteps:=9^9) only[go_sem]
    repeat refine And.intro (by first|omega|(constructor<;>omega)|kernel_rfl) ?_
    refine CallW.mk (c3) ?_
    try simp (maxSteps:=9^9) only[go_sem]
    all_goals repeat refine And.intro (by first|omega|(constructor<;>omega)|kernel_rfl) ?_
    all_goals first|kernel_rfl|omega|rfl
  ·rw [List.drop_of_length_le (by omega)] at hgo
   rw [hgo]
   try simp (maxSteps:=9^9) only[go_sem]
   all_goals repeat refine And.intro (by first|omega|(constructor<;>omega)|kernel_rfl) ?_
   all_goals first|kernel_rfl|omega|rfl
end Go.Proofs.YtffdhjnbppagjaaGreat.DW

namespace Go.Proofs.YtffdhjnbppagjaaGreat.DW
open Go.RowKit
theorem flt_1 {s:DSc} {p x:DS} (h:¬ (-1<=x.1/\x.1<=1)):fltD s p x=3:=if_pos h
theorem flt_2 {s:DSc} {p x:DS} (h:x.1=0):fltD s p x=if freM s p.1 p.2 x.2 then 0 else 4:=by
 unfold fltD
 rw [if_neg (by omega),if_pos h]
theorem flt_3 {s:DSc} {p x:DS} (h:-1<=x.1/\x.1<=1) (h0:¬ x.1=0):fltD s p x=if eqb x.2 p.2 then (if tbA s p.2 < 0 then 5 else 0) else 3:=by
 unfold fltD
 rw [if_neg (not_not_intro h),if_neg h0]
set_option maxRecDepth 100000 in
set_option maxHeartbeats 2000000 in
theorem stepFaultI_fn (s:DSc) (p x:DS) (hs:sceneB s=true):Fn Tryz.prog 102 [⟨.ext .ref tSpaces,some (spsD s)⟩,⟨tStep,p⟩,⟨tStep,x⟩] false [⟨.int,fltD s p x⟩]:=by
 have c1:=within_fn x.1 (-1) 1
 have c2:=implSame_fn x.2 p.2
 have c3:=spsFreeMove_fn s p.1 p.2 x.2
 have c4:=TableAtI_fn s p.2 hs
 unfold spsD at c3 ⊢
 by_cases h1:-1<=x.1/\x.1<=1
 rotate_left
 ·rw [decide_eq_false h1] at c1
  rw [flt_1 h1]
  refine fn_enter tabOK mixes Tryz.func102 rfl rfl _ Tryz.ntmps102 _ Tryz.results102 (by simp) fun hwf=>?_
  try simp (maxSteps:=9^9) only[go_sem]
  repeat refine And.intro (by first|omega|(constructor<;>omega)|kernel_rfl) ?_
  refine CallW.mk (c1) ?_
  try simp (maxSteps:=9^9) only[go_sem]
  repeat refine And.intro (by first|omega|(constructor<;>omega)|kernel_rfl) ?_
  all_goals repeat refine And.intro (by first|omega|(constructor<;>omega)|kernel_rfl) ?_
  all_goals first|kernel_rfl|omega|rfl
 rw [decide_eq_true h1] at c1
 by_cases h0:x.1=0
 ·have d0:=decide_eq_true h0
  rw [flt_2 h0]
  cases hf:freM s p.1 p.2 x.2<;>rw [hf] at c3
  ·rw [if_neg (by decide)]
   refine fn_enter tabOK mixes Tryz.func102 rfl rfl _ Tryz.ntmps102 _ Tryz.results102 (by simp) fun hwf=>?_
   try simp (maxSteps:=9^9) only[go_sem]
   repeat refine And.intro (by first|omega|(constructor<;>omega)|kernel_rfl) ?_
   refine CallW.mk (c1) ?_
   try simp (maxSteps:=9^9) only[go_sem]
   repeat refine And.intro (by first|omega|(constructor<;>omega)|kernel_rfl) ?_
   try simp (maxSteps:=9^9) only[go_sem,d0]
   repeat refine And.intro (by first|omega|(constructor<;>omega)|kernel_rfl) ?_
   refine CallW.mk (c3) ?_
   try simp (maxSteps:=9^9) only[go_sem]
   repeat refine And.intro (by first|omega|(constructor<;>omega)|kernel_rfl) ?_
   try simp (maxSteps:=9^9) only[go_sem,d0]
   repeat refine And.intro (by first|omega|(constructor<;>omega)|kernel_rfl) ?_
   all_goals repeat refine And.intro (by first|omega|(constructor<;>omega)|kernel_rfl) ?_
   all_goals first|kernel_rfl|omega|rfl
  ·rw [if_pos rfl]
   refine fn_enter tabOK mixes Tryz.func102 rfl rfl _ Tryz.ntmps102 _ Tryz.results102 (by simp) fun hwf=>?_
   try simp (maxSteps:=9^9) only[go_sem]
   repeat refine And.intro (by first|omega|(constructor<;>omega)|kernel_rfl) ?_
   refine CallW.mk (c1) ?_
   try simp (maxSteps:=9^9) only[go_sem]
   repeat refine And.intro (by first|omega|(constructor<;>omega)|kernel_rfl) ?_
   try simp (maxSteps:=9^9) only[go_sem,d0]
   repeat refine And.intro (by first|omega|(constructor<;>omega)|kernel_rfl) ?_
   refine CallW.mk (c3) ?_
   try simp (maxSteps:=9^9) only[go_sem]
   repeat refine And.intro (by first|omega|(constructor<;>omega)|kernel_rfl) ?_
   try simp (maxSteps:=9^9) only[go_sem,d0]
   repeat refine And.intro (by first|omega|(constructor<;>omega)|kernel_rfl) ?_
   all_goals repeat refine And.intro (by first|omega|(constructor<;>omega)|kernel_rfl) ?_
   all_goals first|kernel_rfl|omega|rfl
 have d0:=decide_eq_false h0
 rw [flt_3 h1 h0]
 cases he:eqb x.2 p.2<;>rw [he] at c2
 ·rw [if_neg (by decide)]
  refine fn_enter tabOK mixes Tryz.func102 rfl rfl _ Tryz.ntmps102 _ Tryz.results102 (by simp) fun hwf=>?_
  try simp (maxSteps:=9^9) only[go_sem]
  repeat refine And.intro (by first|omega|(constructor<;>omega)|kernel_rfl) ?_
  refine CallW.mk (c1) ?_
  try simp (maxSteps:=9^9) only[go_sem]
  repeat refine And.intro (by first|omega|(constructor<;>omega)|kernel_rfl) ?_
  try simp (maxSteps:=9^9) only[go_sem,d0]
  repeat refine And.intro (by first|omega|(constructor<;>omega)|kernel_rfl) ?_
  refine CallW.mk (c2) ?_
  try simp (maxSteps:=9^9) only[go_sem]
  repeat refine And.intro (by first|omega|(constructor<;>omega)|kernel_rfl) ?_
  try simp (maxSteps:=9^9) only[go_sem,d0]
  repeat refine And.intro (by first|omega|(constructor<;>omega)|kernel_rfl) ?_
  all_goals repeat refine And.intro (by first|omega|(constructor<;>omega)|kernel_rfl) ?_
  all_goals first|kernel_rfl|omega|rfl
 rw [if_pos rfl]
 by_cases ht:tbA s p.2 < 0
 ·have dt:=decide_eq_true ht
  rw [if_pos ht]
  refine fn_enter tabOK mixes Tryz.func102 rfl rfl _ Tryz.ntmps102 _ Tryz.results102 (by simp) fun hwf=>?_
  try simp (maxSteps:=9^9) only[go_sem]
  repeat refine And.intro (by first|omega|(constructor<;>omega)|kernel_rfl) ?_
  refine CallW.mk (c1) ?_
  try simp (maxSteps:=9^9) only[go_sem]
  repeat refine And.intro (by first|omega|(constructor<;>omega)|kernel_rfl) ?_
  try simp (maxSteps:=9^9) only[go_sem,d0]
  repeat refine And.intro (by first|omega|(constructor<;>omega)|kernel_rfl) ?_
  refine CallW.mk (c2) ?_
  try simp (maxSteps:=9^9) only[go_sem]
  repeat refine And.intro (by first|omega|(constructor<;>omega)|kernel_rfl) ?_
  try simp (maxSteps:=9^9) only[go_sem,d0]
  repeat refine And.intro (by first|omega|(constructor<;>omega)|kernel_rfl) ?_
  refine CallW.mk (c4) ?_
  try simp (maxSteps:=9^9) only[go_sem]
  repeat refine And.intro (by first|omega|(constructor<;>omega)|kernel_rfl) ?_
  try simp (maxSteps:=9^9) only[go_sem,dt]
  repeat refine And.intro (by first|omega|(constructor<;>omega)|kernel_rfl) ?_
  all_goals repeat refine And.intro (by first|omega|(constructor<;>omega)|kernel_rfl) ?_
  all_goals first|kernel_rfl|omega|rfl
 ·have dt:=decide_eq_false ht
  rw [if_neg ht]
  refine fn_enter tabOK mixes Tryz.func102 rfl rfl _ Tryz.ntmps102 _ Tryz.results102 (by simp) fun hwf=>?_
  try simp (maxSteps:=9^9) only[go_sem]
  repeat refine And.intro (by first|omega|(constructor<;>omega)|kernel_rfl) ?_
  refine CallW.mk (c1) ?_
  try simp (maxSteps:=9^9) only[go_sem]
  repeat refine And.intro (by first|omega|(constructor<;>omega)|kernel_rfl) ?_
  try simp (maxSteps:=9^9) only[go_sem,d0]
  repeat refine And.intro (by first|omega|(constructor<;>omega)|kernel_rfl) ?_
  refine CallW.mk (c2) ?_
  try simp (maxSteps:=9^9) only[go_sem]
  repeat refine And.intro (by first|omega|(constructor<;>omega)|kernel_rfl) ?_
  try simp (maxSteps:=9^9) only[go_sem,d0]
  repeat refine And.intro (by first|omega|(constructor<;>omega)|kernel_rfl) ?_
  refine CallW.mk (c4) ?_
  try simp (maxSteps:=9^9) only[go_sem]
  repeat refine And.intro (by first|omega|(constructor<;>omega)|kernel_rfl) ?_
  try simp (maxSteps:=9^9) only[go_sem,dt]
  repeat refine And.intro (by first|omega|(constructor<;>omega)|kernel_rfl) ?_
  all_goals repeat refine And.intro (by first|omega|(constructor<;>omega)|kernel_rfl) ?_
  all_goals first|kernel_rfl|omega|rfl
set_option maxRecDepth 100000 in
set_option maxHeartbeats 2000000 in
theorem stepFaultS_fn (s:DSc) (p x:DS) (hs:sceneB s=true):Fn Tryz.prog 95 [⟨tScene,s⟩,⟨tStep,p⟩,⟨tStep,x⟩] false [⟨.int,fltD s p x⟩]:=by
 have c1:=l22Turn_fn x.1
 have c2:=specSame_fn x.2 p.2
 have c3:=IsFreeMoveS_fn s p.1 p.2 x.2
 have c4:=TableAtS_fn s p.2 hs
 by_cases h1:-1<=x.1/\x.1<=1
 rotate_left
 ·rw [decide_eq_false h1] at c1
  rw [flt_1 h1]
  refine fn_enter tabOK mixes Tryz.func95 rfl rfl _ Tryz.ntmps95 _ Tryz.results95 (by simp) fun hwf=>?_
  try simp (maxSteps:=9^9) only[go_sem]
  repeat refine And.intro (by first|omega|(constructor<;>omega)|kernel_rfl) ?_
  refine CallW.mk (c1) ?_
  try simp (maxSteps:=9^9) only[go_sem]
  repeat refine And.intro (by first|omega|(constructor<;>omega)|kernel_rfl) ?_
  all_goals repeat refine And.intro (by first|omega|(constructor<;>omega)|kernel_rfl) ?_
  all_goals first|kernel_rfl|omega|rfl
 rw [decide_eq_true h1] at c1
 by_cases h0:x.1=0
 ·have d0:=decide_eq_true h0
  rw [flt_2 h0]
  cases hf:freM s p.1 p.2 x.2<;>rw [hf] at c3
  ·rw [if_neg (by decide)]
   refine fn_enter tabOK mixes Tryz.func95 rfl rfl _ Tryz.ntmps95 _ Tryz.results95 (by simp) fun hwf=>?_
   try simp (maxSteps:=9^9) only[go_sem]
   repeat refine And.intro (by first|omega|(constructor<;>omega)|kernel_rfl) ?_
   refine CallW.mk (c1) ?_
   try simp (maxSteps:=9^9) only[go_sem]
   repeat refine And.intro (by first|omega|(constructor<;>omega)|kernel_rfl) ?_
   try simp (maxSteps:=9^9) only[go_sem,d0]
   repeat refine And.intro (by first|omega|(constructor<;>omega)|kernel_rfl) ?_
   refine CallW.mk (c3) ?_
   try simp (maxSteps:=9^9) only[go_sem]
   repeat refine And.intro (by first|omega|(constructor<;>omega)|kernel_rfl) ?_
   try simp (maxSteps:=9^9) only[go_sem,d0]
   repeat refine And.intro (by first|omega|(constructor<;>omega)|kernel_rfl) ?_
   all_goals repeat refine And.intro (by first|omega|(constructor<;>omega)|kernel_rfl) ?_
   all_goals first|kernel_rfl|omega|rfl
  ·rw [if_pos rfl]
   refine fn_enter tabOK mixes Tryz.func95 rfl rfl _ Tryz.ntmps95 _ Tryz.results95 (by simp) fun hwf=>?_
   try simp (maxSteps:=9^9) only[go_sem]
   repeat refine And.intro (by first|omega|(constructor<;>omega)|kernel_rfl) ?_
   refine CallW.mk (c1) ?_
   try simp (maxSteps:=9^9) only[go_sem]
   repeat refine And.intro (by first|omega|(constructor<;>omega)|kernel_rfl) ?_
   try simp (maxSteps:=9^9) only[go_sem,d0]
   repeat refine And.intro (by first|omega|(constructor<;>omega)|kernel_rfl) ?_
   refine CallW.mk (c3) ?_
   try simp (maxSteps:=9^9) only[go_sem]
   repeat refine And.intro (by first|omega|(constructor<;>omega)|kernel_rfl) ?_
   try simp (maxSteps:=9^9) only[go_sem,d0]
   repeat refine And.intro (by first|omega|(constructor<;>omega)|kernel_rfl) ?_
   all_goals repeat refine And.intro (by first|omega|(constructor<;>omega)|kernel_rfl) ?_
   all_goals first|kernel_rfl|omega|rfl
 have d0:=decide_eq_false h0
 rw [flt_3 h1 h0]
 cases he:eqb x.2 p.2<;>rw [he] at c2
 ·rw [if_neg (by decide)]
  refine fn_enter tabOK mixes Tryz.func95 rfl rfl _ Tryz.ntmps95 _ Tryz.results95 (by simp) fun hwf=>?_
  try simp (maxSteps:=9^9) only[go_sem]
  repeat refine And.intro (by first|omega|(constructor<;>omega)|kernel_rfl) ?_
  refine CallW.mk (c1) ?_
  try simp (maxSteps:=9^9) only[go_sem]
  repeat refine And.intro (by first|omega|(constructor<;>omega)|kernel_rfl) ?_
  try simp (maxSteps:=9^9) only[go_sem,d0]
  repeat refine And.intro (by first|omega|(constructor<;>omega)|kernel_rfl) ?_
  refine CallW.mk (c2) ?_
  try simp (maxSteps:=9^9) only[go_sem]
  repeat refine And.intro (by first|omega|(constructor<;>omega)|kernel_rfl) ?_
  try simp (maxSteps:=9^9) only[go_sem,d0]
  repeat refine And.intro (by first|omega|(constructor<;>omega)|kernel_rfl) ?_
  all_goals repeat refine And.intro (by first|omega|(constructor<;>omega)|kernel_rfl) ?_
  all_goals first|kernel_rfl|omega|rfl
 rw [if_pos rfl]
 by_cases ht:tbA s p.2 < 0
 ·have dt:=decide_eq_true ht
  rw [if_pos ht]
  refine fn_enter tabOK mixes Tryz.func95 rfl rfl _ Tryz.ntmps95 _ Tryz.results95 (by simp) fun hwf=>?_
  try simp (maxSteps:=9^9) only[go_sem]
  repeat refine And.intro (by first|omega|(constructor<;>omega)|kernel_rfl) ?_
  refine CallW.mk (c1) ?_
  try simp (maxSteps:=9^9) only[go_sem]
  repeat refine And.intro (by first|omega|(constructor<;>omega)|kernel_rfl) ?_
  try simp (maxSteps:=9^9) only[go_sem,d0]
  repeat refine And.intro (by first|omega|(constructor<;>omega)|kernel_rfl) ?_
  refine CallW.mk (c2) ?_
  try simp (maxSteps:=9^9) only[go_sem]
  repeat refine And.intro (by first|omega|(constructor<;>omega)|kernel_rfl) ?_
  try simp (maxSteps:=9^9) only[go_sem,d0]
  repeat refine And.intro (by first|omega|(constructor<;>omega)|kernel_rfl) ?_
  refine CallW.mk (c4) ?_
  try simp (maxSteps:=9^9) only[go_sem]
  repeat refine And.intro (by first|omega|(constructor<;>omega)|kernel_rfl) ?_
  try simp (maxSteps:=9^9) only[go_sem,dt]
  repeat refine And.intro (by first|omega|(constructor<;>omega)|kernel_rfl) ?_
  all_goals repeat refine And.intro (by first|omega|(constructor<;>omega)|kernel_rfl) ?_
  all_goals first|kernel_rfl|omega|rfl
 ·have dt:=decide_eq_false ht
  rw [if_neg ht]
  refine fn_enter tabOK mixes Tryz.func95 rfl rfl _ Tryz.ntmps95 _ Tryz.results95 (by simp) fun hwf=>?_
  try simp (maxSteps:=9^9) only[go_sem]
  repeat refine And.intro (by first|omega|(constructor<;>omega)|kernel_rfl) ?_
  refine CallW.mk (c1) ?_
  try simp (maxSteps:=9^9) only[go_sem]
  repeat refine And.intro (by first|omega|(constructor<;>omega)|kernel_rfl) ?_
  try simp (maxSteps:=9^9) only[go_sem,d0]
  repeat refine And.intro (by first|omega|(constructor<;>omega)|kernel_rfl) ?_
  refine CallW.mk (c2) ?_
  try simp (maxSteps:=9^9) only[go_sem]
  repeat refine And.intro (by first|omega|(constructor<;>omega)|kernel_rfl) ?_
  try simp (maxSteps:=9^9) only[go_sem,d0]
  repeat refine And.intro (by first|omega|(constructor<;>omega)|kernel_rfl) ?_
  refine CallW.mk (c4) ?_
  try simp (maxSteps:=9^9) only[go_sem]
  repeat refine And.intro (by first|omega|(constructor<;>omega)|kernel_rfl) ?_
  try simp (maxSteps:=9^9) only[go_sem,dt]
  repeat refine And.intro (by first|omega|(constructor<;>omega)|kernel_rfl) ?_
  all_goals repeat refine And.intro (by first|omega|(constructor<;>omega)|kernel_rfl) ?_
  all_goals first|kernel_rfl|omega|rfl
theorem samePl_fn (p q:DS):Fn Tryz.prog 104 [⟨tStep,p⟩,⟨tStep,q⟩] false [⟨.bool,decide (p.1=q.1) && eqb p.2 q.2⟩]:=by
 have c1:=implSame_fn p.2 q.2
 by_cases h0:p.1=q.1
 ·have d0:=decide_eq_true h0
  rw [d0]
  refine fn_enter tabOK mixes Tryz.func104 rfl rfl _ Tryz.ntmps104 _ Tryz.results104 (by simp) fun hwf=>?_
  try simp (maxSteps:=9^9) only[go_sem,d0]
  repeat refine And.intro (by first|omega|(constructor<;>omega)|kernel_rfl) ?_
  refine CallW.mk (c1) ?_
  try simp (maxSteps:=9^9) only[go_sem]
  all_goals repeat refine And.intro (by first|omega|(constructor<;>omega)|kernel_rfl) ?_
  all_goals first|kernel_rfl|omega|rfl
 ·have d0:=decide_eq_false h0
  rw [d0]
  refine fn_enter tabOK mixes Tryz.func104 rfl rfl _ Tryz.ntmps104 _ Tryz.results104 (by simp) fun hwf=>?_
  try simp (maxSteps:=9^9) only[go_sem,d0]
  all_goals repeat refine And.intro (by first|omega|(constructor<;>omega)|kernel_rfl) ?_
  all_goals first|kernel_rfl|omega|rfl
theorem ck_1 {s:DSc} {p q:DS} {l:List DS} (h:sceneB s=false):ckD s p l q=(1,0):=if_neg (by rw [h]; decide)
theorem ck_2 {s:DSc} {p q:DS} {l:List DS} (h:sceneB s=true) (h2:freB s p.1 p.2=false):ckD s p l q=(2,0):=by
 unfold ckD
 rw [if_pos h,if_neg (by rw [h2]; decide)]
theorem ck_3 {s:DSc} {p q:DS} {l:List DS} (h:sceneB s=true) (h2:freB s p.1 p.2=true) {r:Int × Int} (h3:ckGo s p l 0=some r):ckD s p l q=r:=by
 unfold ckD
 rw [if_pos h,if_pos h2,h3]
theorem ck_4 {s:DSc} {p q:DS} {l:List DS} (h:sceneB s=true) (h2:freB s p.1 p.2=true) (h3:ckGo s p l 0=none):ckD s p l q=if (plcF p l).1=q.1/\eqb (plcF p l).2 q.2=true then (0,0) else (6,0):=by
 unfold ckD
 rw [if_pos h,if_pos h2,h3]
set_option maxRecDepth 100000 in
set_option maxHeartbeats 2000000 in
theorem CheckMotionI_fn (s:DSc) (p:DS) (l:List DS) (q:DS):Fn Tryz.prog 29 [⟨tScene,s⟩,⟨tStep,p⟩,⟨.slice tStep,l⟩,⟨tStep,q⟩] false [⟨.int,(ckD s p l q).1⟩,⟨.int,(ckD s p l q).2⟩]:=by
 have c1:=IsValidSceneI_fn s
 cases hs:sceneB s<;>rw [hs] at c1
 ·rw [ck_1 hs]
  refine fn_enter tabOK mixes Tryz.func29 rfl rfl _ Tryz.ntmps29 _ Tryz.results29 (by simp) fun hwf=>?_
  try simp (maxSteps:=9^9) only[go_sem]
  repeat refine And.intro (by first|omega|(constructor<;>omega)|kernel_rfl) ?_
  refine CallW.mk (c1) ?_
  try simp (maxSteps:=9^9) only[go_sem]
  repeat refine And.intro (by first|omega|(constructor<;>omega)|kernel_rfl) ?_
  all_goals repeat refine And.intro (by first|omega|(constructor<;>omega)|kernel_rfl) ?_
  all_goals first|kernel_rfl|omega|rfl
 have c2:=spacesOf_fn s
 have c3:=spsFree_fn s p.1 p.2
 cases hf:freB s p.1 p.2<;>rw [hf] at c3
 ·rw [ck_2 hs hf]
  refine fn_enter tabOK mixes Tryz.func29 rfl rfl _ Tryz.ntmps29 _ Tryz.results29 (by simp) fun hwf=>?_
  try simp (maxSteps:=9^9) only[go_sem]
  repeat refine And.intro (by first|omega|(constructor<;>omega)|kernel_rfl) ?_
  refine CallW.mk (c1) ?_
  try simp (maxSteps:=9^9) only[go_sem]
  repeat refine And.intro (by first|omega|(constructor<;>omega)|kernel_rfl) ?_
  refine CallW.mk (c2) ?_
  try simp (maxSteps:=9^9) only[go_sem]
  repeat refine And.intro (by first|omega|(constructor<;>omega)|kernel_rfl) ?_
  refine CallW.mk (c3) ?_
  try simp (maxSteps:=9^9) only[go_sem]
  repeat refine And.intro (by first|omega|(constructor<;>omega)|kernel_rfl) ?_
  all_goals repeat refine And.intro (by first|omega|(constructor<;>omega)|kernel_rfl) ?_
  all_goals first|kernel_rfl|omega|rfl
 refine fn_enter tabOK mixes Tryz.func29 rfl rfl _ Tryz.ntmps29 _ Tryz.results29 (by simp) fun hwf=>?_
 have hln:l.length<=9223372036854775807:=(hwf ⟨.slice tStep,l⟩ (by simp)).1
 try simp (maxSteps:=9^9) only[go_sem]
 repeat refine And.intro (by first|omega|(constructor<;>omega)|kernel_rfl) ?_
 refine CallW.mk (c1) ?_
 try simp (maxSteps:=9^9) only[go_sem]
 repeat refine And.intro (by first|omega|(constructor<;>omega)|kernel_rfl) ?_
 refine CallW.mk (c2) ?_
 try simp (maxSteps:=9^9) only[go_sem]
 repeat refine And.intro (by first|omega|(constructor<;>omega)|kernel_rfl) ?_
 refine CallW.mk (c3) ?_
 try simp (maxSteps:=9^9) only[go_sem]
 repeat refine And.intro (by first|omega|(constructor<;>omega)|kernel_rfl) ?_
 refine LoopG.intro _ _ _ (fun i:Nat=>⟨[(4,.ptr 0 0),(5,.ptr 1 0),(7,.ptr 2 0),(10,.ref tSpaces (spsD s) 0),(26,.sl tStep l),(27,.sc (.int .i64 l.length)),(28,.sc (.int .i64 i))],[(0,.box (cel tScene s)),(1,.box (cel tStep (plcS p l i))),(2,.box (cel tStep q))]⟩) (fun i=>i<=l.length/\ckGo s p l 0=ckGo s (plcS p l i) (l.drop i) i) (fun i=>l.length - i) 0 ?_ ⟨Nat.zero_le _,rfl⟩ ?_
 ·rw [show plcS p l 0=p from rfl]
  refine Wk.mk [] ?_
  try simp (maxSteps:=9^9) only[go_sem]
  try (and_intros<;>first|rfl|omega|exact ⟨_,rfl⟩)
 ·rintro i ⟨hi,hgo⟩
  try simp (maxSteps:=9^9) only[go_sem]
  refine CondW_dec (fun hA=>?_) (fun hA=>?_)
  ·have hlt:i < l.length:=by omega
   rw [ckGo_at hlt] at hgo
   have hst:=plcS_step p hlt
   have c4:=stepFaultI_fn s (plcS p l i) (nth (t:=tStep) l i) hs
   have c5:=stepped_fn (plcS p l i) (nth (t:=tStep) l i)
   by_cases h0:fltD s (plcS p l i) (nth (t:=tStep) l i)=0
   ·have d0:=decide_eq_true h0
    rw [if_pos h0] at hgo
    try simp (maxSteps:=9^9) only[go_sem]
    repeat refine And.intro (by first|omega|(constructor<;>omega)|kernel_rfl) ?_
    refine CallW.mk (c4) ?_
    try simp (maxSteps:=9^9) only[go_sem]
    repeat refine And.intro (by first|omega|(constructor<;>omega)|kernel_rfl) ?_
    try simp (maxSteps:=9^9) only[go_sem,d0]
    repeat refine And.intro (by first|omega|(constructor<;>omega)|kernel_rfl) ?_
    refine CallW.mk (c5) ?_
    try simp (maxSteps:=9^9) only[go_sem]
    repeat refine And.intro (by first|omega|(constructor<;>omega)|kernel_rfl) ?_
    refine LoopK.mk (i+1) ?_ ⟨by omega,hgo⟩ (by omega)
    rw [hst]
    refine Wk.mk [] ?_
    try simp (maxSteps:=9^9) only[go_sem]
    try (and_intros<;>first|rfl|omega|exact ⟨_,rfl⟩)
   ·have d0:=decide_eq_false h0
    rw [if_neg h0] at hgo
    rw [ck_3 hs hf hgo]
    try simp (maxSteps:=9^9) only[go_sem]
    repeat refine And.intro (by first|omega|(constructor<;>omega)|kernel_rfl) ?_
    refine CallW.mk (c4) ?_
    try simp (maxSteps:=9^9) only[go_sem]
    repeat refine And.intro (by first|omega|(constructor<;>omega)|kernel_rfl) ?_
    try simp (maxSteps:=9^9) only[go_sem,d0]
    all_goals repeat refine And.intro (by first|omega|(constructor<;>omega)|kernel_rfl) ?_
    all_goals first|kernel_rfl|omega|rfl
  ·have hi2:i=l.length:=by omega
   rw [List.drop_of_length_le (by omega)] at hgo
   have hgo':ckGo s p l 0=none:=hgo
   rw [ck_4 hs hf hgo',show plcF p l=plcS p l i by unfold plcS; rw [List.take_of_length_le (by omega)]]
   have c6:=samePl_fn (plcS p l i) q
   by_cases hq:(plcS p l i).1=q.1/\eqb (plcS p l i).2 q.2=true
   ·rw [if_pos hq]
    rw [decide_eq_true hq.1,hq.2] at c6
    try simp (maxSteps:=9^9) only[go_sem]
    repeat refine And.intro (by first|omega|(constructor<;>omega)|kernel_rfl) ?_
    refine CallW.mk (c6) ?_
    try simp (maxSteps:=9^9) only[go_sem]
    all_goals repeat refine And.intro (by first|omega|(constructor<;>omega)|kernel_rfl) ?_
    all_goals first|kernel_rfl|omega|rfl
   ·rw [if_neg hq]
    rw [show (decide ((plcS p l i).1=q.1) && eqb (plcS p l i).2 q.2)=false by
     rw [Bool.and_eq_false_iff]
     by_cases h1:(plcS p l i).1=q.1
     ·right
      cases h2:eqb (plcS p l i).2 q.2
      ·rfl
      ·exact absurd ⟨h1,h2⟩ hq
     ·exact .inl (decide_eq_false h1)] at c6
    try simp (maxSteps:=9^9) only[go_sem]
    repeat refine And.intro (by first|omega|(constructor<;>omega)|kernel_rfl) ?_
    refine CallW.mk (c6) ?_
    try simp (maxSteps:=9^9) only[go_sem]
    all_goals repeat refine And.intro (by first|omega|(constructor<;>omega)|kernel_rfl) ?_
    all_goals first|kernel_rfl|omega|rfl
set_option maxRecDepth 100000 in
set_option maxHeartbeats 2000000 in
theorem CheckMotionS_fn (s:DSc) (p:DS) (l:List DS) (q:DS):Fn Tryz.prog 26 [⟨tScene,s⟩,⟨tStep,p⟩,⟨.slice tStep,l⟩,⟨tStep,q⟩] false [⟨.int,(ckD s p l q).1⟩,⟨.int,(ckD s p l q).2⟩]:=by
 have c1:=IsValidSceneS_fn s
 cases hs:sceneB s<;>rw [hs] at c1
 ·rw [ck_1 hs]
  refine fn_enter tabOK mixes Tryz.func26 rfl rfl _ Tryz.ntmps26 _ Tryz.results26 (by simp) fun hwf=>?_
  try simp (maxSteps:=9^9) only[go_sem]
  repeat refine And.intro (by first|omega|(constructor<;>omega)|kernel_rfl) ?_
  refine CallW.mk (c1) ?_
  try simp (maxSteps:=9^9) only[go_sem]
  repeat refine And.intro (by first|omega|(constructor<;>omega)|kernel_rfl) ?_
  all_goals repeat refine And.intro (by first|omega|(constructor<;>omega)|kernel_rfl) ?_
  all_goals first|kernel_rfl|omega|rfl
 have c3:=IsFreeS_fn s p.1 p.2
 cases hf:freB s p.1 p.2<;>rw [hf] at c3
 ·rw [ck_2 hs hf]
  refine fn_enter tabOK mixes Tryz.func26 rfl rfl _ Tryz.ntmps26 _ Tryz.results26 (by simp) fun hwf=>?_
  try simp (maxSteps:=9^9) only[go_sem]
  repeat refine And.intro (by first|omega|(constructor<;>omega)|kernel_rfl) ?_
  refine CallW.mk (c1) ?_
  try simp (maxSteps:=9^9) only[go_sem]
  repeat refine And.intro (by first|omega|(constructor<;>omega)|kernel_rfl) ?_
  refine CallW.mk (c3) ?_
  try simp (maxSteps:=9^9) only[go_sem]
  repeat refine And.intro (by first|omega|(constructor<;>omega)|kernel_rfl) ?_
  all_goals repeat refine And.intro (by first|omega|(constructor<;>omega)|kernel_rfl) ?_
  all_goals first|kernel_rfl|omega|rfl
 refine fn_enter tabOK mixes Tryz.func26 rfl rfl _ Tryz.ntmps26 _ Tryz.results26 (by simp) fun hwf=>?_
 have hln:l.length<=9223372036854775807:=(hwf ⟨.slice tStep,l⟩ (by simp)).1
 try simp (maxSteps:=9^9) only[go_sem]
 repeat refine And.intro (by first|omega|(constructor<;>omega)|kernel_rfl) ?_
 refine CallW.mk (c1) ?_
 try simp (maxSteps:=9^9) only[go_sem]
 repeat refine And.intro (by first|omega|(constructor<;>omega)|kernel_rfl) ?_
 refine CallW.mk (c3) ?_
 try simp (maxSteps:=9^9) only[go_sem]
 repeat refine And.intro (by first|omega|(constructor<;>omega)|kernel_rfl) ?_
 refine LoopG.intro _ _ _ (fun i:Nat=>⟨[(4,.ptr 0 0),(5,.ptr 1 0),(7,.ptr 2 0),(23,.sl tStep l),(24,.sc (.int .i64 l.length)),(25,.sc (.int .i64 i))],[(0,.box (cel tScene s)),(1,.box (cel tStep (plcS p l i))),(2,.box (cel tStep q))]⟩) (fun i=>i<=l.length/\ckGo s p l 0=ckGo s (plcS p l i) (l.drop i) i) (fun i=>l.length - i) 0 ?_ ⟨Nat.zero_le _,rfl⟩ ?_
 ·rw [show plcS p l 0=p from rfl]
  refine Wk.mk [] ?_
  try simp (maxSteps:=9^9) only[go_sem]
  try (and_intros<;>first|rfl|omega|exact ⟨_,rfl⟩)
 ·rintro i ⟨hi,hgo⟩
  try simp (maxSteps:=9^9) only[go_sem]
  refine CondW_dec (fun hA=>?_) (fun hA=>?_)
  ·have hlt:i < l.length:=by omega
   rw [ckGo_at hlt] at hgo
   have hst:=plcS_step p hlt
   have c4:=stepFaultS_fn s (plcS p l i) (nth (t:=tStep) l i) hs
   have c5:=l22After_fn (plcS p l i) (nth (t:=tStep) l i)
   by_cases h0:fltD s (plcS p l i) (nth (t:=tStep) l i)=0
   ·have d0:=decide_eq_true h0
    rw [if_pos h0] at hgo
    try simp (maxSteps:=9^9) only[go_sem]
    repeat refine And.intro (by first|omega|(constructor<;>omega)|kernel_rfl) ?_
    refine CallW.mk (c4) ?_
    try simp (maxSteps:=9^9) only[go_sem]
    repeat refine And.intro (by first|omega|(constructor<;>omega)|kernel_rfl) ?_
    try simp (maxSteps:=9^9) only[go_sem,d0]
    repeat refine And.intro (by first|omega|(constructor<;>omega)|kernel_rfl) ?_
    refine CallW.mk (c5) ?_
    try simp (maxSteps:=9^9) only[go_sem]
    repeat refine And.intro (by first|omega|(constructor<;>omega)|kernel_rfl) ?_
    refine LoopK.mk (i+1) ?_ ⟨by omega,hgo⟩ (by omega)
    rw [hst]
    refine Wk.mk [] ?_
    try simp (maxSteps:=9^9) only[go_sem]
    try (and_intros<;>first|rfl|omega|exact ⟨_,rfl⟩)
   ·have d0:=decide_eq_false h0
    rw [if_neg h0] at hgo
    rw [ck_3 hs hf hgo]
    try simp (maxSteps:=9^9) only[go_sem]
    repeat refine And.intro (by first|omega|(constructor<;>omega)|kernel_rfl) ?_
    refine CallW.mk (c4) ?_
    try simp (maxSteps:=9^9) only[go_sem]
    repeat refine And.intro (by first|omega|(constructor<;>omega)|kernel_rfl) ?_
    try simp (maxSteps:=9^9) only[go_sem,d0]
    all_goals repeat refine And.intro (by first|omega|(constructor<;>omega)|kernel_rfl) ?_
    all_goals first|kernel_rfl|omega|rfl
  ·have hi2:i=l.length:=by omega
   rw [List.drop_of_length_le (by omega)] at hgo
   have hgo':ckGo s p l 0=none:=hgo
   rw [ck_4 hs hf hgo',show plcF p l=plcS p l i by unfold plcS; rw [List.take_of_length_le (by omega)]]
   have c6:=specSame_fn (plcS p l i).2 q.2
   by_cases h1:(plcS p l i).1=q.1
   ·have d1:=decide_eq_true h1
    cases h2:eqb (plcS p l i).2 q.2<;>rw [h2] at c6
    ·rw [if_neg fun h=>by cases h.2]
     try simp (maxSteps:=9^9) only[go_sem]
     repeat refine And.intro (by first|omega|(constructor<;>omega)|kernel_rfl) ?_
     try simp (maxSteps:=9^9) only[go_sem,d1]
     repeat refine And.intro (by first|omega|(constructor<;>omega)|kernel_rfl) ?_
     refine CallW.mk (c6) ?_
     try simp (maxSteps:=9^9) only[go_sem]
     all_goals repeat refine And.intro (by first|omega|(constructor<;>omega)|kernel_rfl) ?_
     all_goals first|kernel_rfl|omega|rfl
    ·rw [if_pos ⟨h1,rfl⟩]
     try simp (maxSteps:=9^9) only[go_sem]
     repeat refine And.intro (by first|omega|(constructor<;>omega)|kernel_rfl) ?_
     try simp (maxSteps:=9^9) only[go_sem,d1]
     repeat refine And.intro (by first|omega|(constructor<;>omega)|kernel_rfl) ?_
     refine CallW.mk (c6) ?_
     try simp (maxSteps:=9^9) only[go_sem]
     all_goals repeat refine And.intro (by first|omega|(constructor<;>omega)|kernel_rfl) ?_
     all_goals first|kernel_rfl|omega|rfl
   ·have d1:=decide_eq_false h1
    rw [if_neg fun h=>h1 h.1]
    try simp (maxSteps:=9^9) only[go_sem]
    repeat refine And.intro (by first|omega|(constructor<;>omega)|kernel_rfl) ?_
    try simp (maxSteps:=9^9) only[go_sem,d1]
    all_goals repeat refine And.intro (by first|omega|(constructor<;>omega)|kernel_rfl) ?_
    all_goals first|kernel_rfl|omega|rfl
theorem IsMotionI_fn (s:DSc) (p:DS) (l:List DS) (q:DS):Fn Tryz.prog 33 [⟨tScene,s⟩,⟨tStep,p⟩,⟨.slice tStep,l⟩,⟨tStep,q⟩] false [⟨.bool,imB s p l q⟩]:=by
 have c1:=CheckMotionI_fn s p l q
 unfold imB
 refine fn_enter tabOK mixes Tryz.func33 rfl rfl _ Tryz.ntmps33 _ Tryz.results33 (by simp) fun hwf=>?_
 try simp (maxSteps:=9^9) only[go_sem]
 repeat refine And.intro (by first|omega|(constructor<;>omega)|kernel_rfl) ?_
 refine CallW.mk (c1) ?_
 try simp (maxSteps:=9^9) only[go_sem]
 all_goals repeat refine And.intro (by first|omega|(constructor<;>omega)|kernel_rfl) ?_
 all_goals first|kernel_rfl|omega|rfl
theorem IsMotionS_fn (s:DSc) (p:DS) (l:List DS) (q:DS):Fn Tryz.prog 32 [⟨tScene,s⟩,⟨tStep,p⟩,⟨.slice tStep,l⟩,⟨tStep,q⟩] false [⟨.bool,imB s p l q⟩]:=by
 have c1:=CheckMotionS_fn s p l q
 unfold imB
 refine fn_enter tabOK mixes Tryz.func32 rfl rfl _ Tryz.ntmps32 _ Tryz.results32 (by simp) fun hwf=>?_
 try simp (maxSteps:=9^9) only[go_sem]
 repeat refine And.intro (by first|omega|(constructor<;>omega)|kernel_rfl) ?_
 refine CallW.mk (c1) ?_
 try simp (maxSteps:=9^9) only[go_sem]
 all_goals repeat refine And.intro (by first|omega|(constructor<;>omega)|kernel_rfl) ?_
 all_goals first|kernel_rfl|omega|rfl
end Go.Proofs.YtffdhjnbppagjaaGreat.DW

namespace Go.Proofs.YtffdhjnbppagjaaGreat
open Go.RowKit
abbrev DVec:=Int × Int
abbrev RVec:Rp DVec:=Rp.prod Rp.int Rp.int
abbrev DVecS:=List DVec
abbrev RVecS:Rp DVecS:=Rp.slice RVec (by decide)
abbrev DTour:=DVecS × (DPlacement × DStepS)
namespace DW
theorem szVecS_fn (x:DVecS) (left:Int) (h0:0<=left) (h1:left<=1048576):Fn Tryz.prog 63 [⟨.slice DW.tVec,x⟩,⟨.int,left⟩] false [⟨.int,szr left x.length⟩]:=by
 by_cases h:(x.length:Int)<=left
 ·rw [<-szr_ge h]
  have d:=decide_eq_false (p:=left - (x.length:Int) < 0) (by omega)
  refine fn_enter tabOK mixes Tryz.func63 rfl rfl _ Tryz.ntmps63 _ Tryz.results63 (by simp) fun hwf=>?_
  have hl:x.length<=9223372036854775807:=(hwf ⟨.slice DW.tVec,x⟩ (by simp)).1
  try simp (maxSteps:=9^9) only[go_sem]
  repeat refine And.intro (by first|omega|(constructor<;>omega)|kernel_rfl) ?_
  try simp (maxSteps:=9^9) only[go_sem,d]
  all_goals repeat refine And.intro (by first|omega|(constructor<;>omega)|kernel_rfl) ?_
  all_goals first|kernel_rfl|omega|rfl
 ·rw [<-szr_lt (by omega)]
  have d:=decide_eq_true (p:=left - (x.length:Int) < 0) (by omega)
  refine fn_enter tabOK mixes Tryz.func63 rfl rfl _ Tryz.ntmps63 _ Tryz.results63 (by simp) fun hwf=>?_
  have hl:x.length<=9223372036854775807:=(hwf ⟨.slice DW.tVec,x⟩ (by simp)).1
  try simp (maxSteps:=9^9) only[go_sem]
  repeat refine And.intro (by first|omega|(constructor<;>omega)|kernel_rfl) ?_
  try simp (maxSteps:=9^9) only[go_sem,d]
  all_goals repeat refine And.intro (by first|omega|(constructor<;>omega)|kernel_rfl) ?_
  all_goals first|kernel_rfl|omega|rfl
theorem toVec_fn (x:DVec):Fn Tryz.prog 75 [⟨DW.tVec,x⟩] false [⟨DW.tVec,x⟩]:=by
 refine fn_enter tabOK mixes Tryz.func75 rfl rfl _ Tryz.ntmps75 _ Tryz.results75 (by simp) fun hwf=>?_
 try simp (maxSteps:=9^9) only[go_sem]
 all_goals repeat refine And.intro (by first|omega|(constructor<;>omega)|kernel_rfl) ?_
 all_goals first|kernel_rfl|omega|rfl
theorem toVecS_fn (x:DVecS) (hs:x.length<=1048576):Fn Tryz.prog 76 [⟨.slice DW.tVec,x⟩] true [⟨.slice DW.tVec,x⟩]:=by
 refine fn_enter tabOK mixes Tryz.func76 rfl rfl _ Tryz.ntmps76 _ Tryz.results76 (by simp) fun hwf=>?_
 try simp (maxSteps:=9^9) only[go_sem]
 repeat refine And.intro (by first|omega|(constructor<;>omega)|kernel_rfl) ?_
 refine LoopG.intro _ _ _ (fun i:Nat=>⟨[(0,.sl DW.tVec x),(3,.row 0 0),(4,.sc (.int .i64 i))],[(0,.row 41 DW.tVec 0 true (x.take i++List.replicate (x.length - i) ((0:Int),(0:Int))))]⟩) (fun i=>i<=x.length) (fun i=>x.length - i) 0 ?_ (Nat.zero_le _) ?_
 ·refine Wk.mk [] ?_
  try simp (maxSteps:=9^9) only[go_sem]
  try (and_intros<;>first|rfl|omega|exact ⟨_,rfl⟩)
 ·rintro i hi
  have hlen:(x.take i++List.replicate (x.length - i) ((0:Int),(0:Int))).length=x.length:=by simp; omega
  try simp (maxSteps:=9^9) only[go_sem]
  refine CondW_dec (fun hA=>?_) (fun hA=>?_)
  ·have hset:(x.take i++List.replicate (x.length - i) ((0:Int),(0:Int))).set i (nth (t:=DW.tVec) x i)=x.take (i+1)++List.replicate (x.length - (i+1)) ((0:Int),(0:Int)):=by
    have hlt:i < x.length:=by omega
    rw [List.set_append_right _ _ (by rw [List.length_take]; omega),List.length_take,show i - min i x.length=0 by omega,show x.length - i=(x.length - (i+1))+1 by omega,List.replicate_succ,List.set_cons_zero,nth_lt hlt]
    have e:x.take (i+1)=x.take i++[x[i]]:=List.take_succ_eq_append_getElem hlt
    rw [e,List.append_assoc]; rfl
   have ht:(List.take i x).length=i:=by rw [List.length_take]; omega
   have c1:=toVec_fn (nth (t:=DW.tVec) x i)
   try simp (maxSteps:=9^9) only[go_sem]
   repeat refine And.intro (by first|omega|(constructor<;>omega)|kernel_rfl) ?_
   refine CallW.mk (c1) ?_
   try simp (maxSteps:=9^9) only[go_sem]
   repeat refine And.intro (by first|omega|(constructor<;>omega)|kernel_rfl) ?_
   refine LoopK.mk (i+1) ?_ (by omega) (by omega)
   rw [<-hset]
   refine Wk.mk [] ?_
   try simp (maxSteps:=9^9) only[go_sem]
   try (and_intros<;>first|rfl|omega|exact ⟨_,rfl⟩)
  ·have:x.take i++List.replicate (x.length - i) ((0:Int),(0:Int))=x:=by
    rw [List.take_of_length_le (by omega),show x.length - i=0 by omega]; simp
   rw [this]
   try simp (maxSteps:=9^9) only[go_sem]
   all_goals repeat refine And.intro (by first|omega|(constructor<;>omega)|kernel_rfl) ?_
   all_goals first|kernel_rfl|omega|rfl
theorem eqVec_fn (x y:DVec):Fn Tryz.prog 85 [⟨DW.tVec,x⟩,⟨DW.tVec,y⟩] false [⟨.bool,eqb x y⟩]:=by
 by_cases h1:x.1=y.1
 ·have d1:=decide_eq_true h1
  by_cases h2:x.2=y.2
  ·have d2:=decide_eq_true h2
   rw [eqb_true (Prod.ext h1 h2)]
   refine fn_enter tabOK mixes Tryz.func85 rfl rfl _ Tryz.ntmps85 _ Tryz.results85 (by simp) fun hwf=>?_
   try simp (maxSteps:=9^9) only[go_sem,d1,d2]
  ·have d2:=decide_eq_false h2
   rw [eqb_false (fun h=>h2 (by rw [h]))]
   refine fn_enter tabOK mixes Tryz.func85 rfl rfl _ Tryz.ntmps85 _ Tryz.results85 (by simp) fun hwf=>?_
   try simp (maxSteps:=9^9) only[go_sem,d1,d2]
 ·have d1:=decide_eq_false h1
  rw [eqb_false (fun h=>h1 (by rw [h]))]
  refine fn_enter tabOK mixes Tryz.func85 rfl rfl _ Tryz.ntmps85 _ Tryz.results85 (by simp) fun hwf=>?_
  try simp (maxSteps:=9^9) only[go_sem,d1]
theorem eqVecS_fn (x y:DVecS):Fn Tryz.prog 86 [⟨.slice DW.tVec,x⟩,⟨.slice DW.tVec,y⟩] false [⟨.bool,eqb x y⟩]:=by
 by_cases h0:(x.length:Int)=y.length
 ·have d0:=decide_eq_true h0
  refine fn_enter tabOK mixes Tryz.func86 rfl rfl _ Tryz.ntmps86 _ Tryz.results86 (by simp) fun hwf=>?_
  have hl:x.length<=9223372036854775807:=(hwf ⟨.slice DW.tVec,x⟩ (by simp)).1
  try simp (maxSteps:=9^9) only[go_sem,d0]
  refine LoopG.intro _ _ _ (fun i:Nat=>⟨[(0,.sl DW.tVec x),(1,.sl DW.tVec y),(5,.sc (.int .i64 i))],[]⟩) (fun i=>∀ j,j < i->j < x.length->nth (t:=DW.tVec) x j=nth (t:=DW.tVec) y j) (fun i=>x.length - i) 0 ?_ (fun j h=>absurd h (Nat.not_lt_zero _)) ?_
  ·refine Wk.mk [] ?_
   try simp (maxSteps:=9^9) only[go_sem]
   try (and_intros<;>first|rfl|omega|exact ⟨_,rfl⟩)
  ·rintro i hi
   try simp (maxSteps:=9^9) only[go_sem]
   refine CondW_dec (fun hA=>?_) (fun hA=>?_)
   ·have c1:=eqVec_fn (nth (t:=DW.tVec) x i) (nth (t:=DW.tVec) y i)
    by_cases e:nth (t:=DW.tVec) x i=nth (t:=DW.tVec) y i
    ·rw [eqb_true e] at c1
     try simp (maxSteps:=9^9) only[go_sem]
     repeat refine And.intro (by first|omega|(constructor<;>omega)|kernel_rfl) ?_
     refine CallW.mk (c1) ?_
     try simp (maxSteps:=9^9) only[go_sem]
     repeat refine And.intro (by first|omega|(constructor<;>omega)|kernel_rfl) ?_
     refine LoopK.mk (i+1) ?_ (fun j h1 h2=>?_) (by omega)
     ·refine Wk.mk [] ?_
      try simp (maxSteps:=9^9) only[go_sem]
      try (and_intros<;>first|rfl|omega|exact ⟨_,rfl⟩)
     ·by_cases h3:j < i
      ·exact hi j h3 h2
      ·rw [show j=i by omega]; exact e
    ·rw [eqb_false e] at c1
     rw [eqb_false (fun h=>e (by rw [h]))]
     try simp (maxSteps:=9^9) only[go_sem]
     repeat refine And.intro (by first|omega|(constructor<;>omega)|kernel_rfl) ?_
     refine CallW.mk (c1) ?_
     try simp (maxSteps:=9^9) only[go_sem]
     all_goals repeat refine And.intro (by first|omega|(constructor<;>omega)|kernel_rfl) ?_
     all_goals first|kernel_rfl|omega|rfl
   ·have:x=y:=by
     refine List.ext_getElem (by omega) fun j h1 h2=>?_
     have:=hi j (by omega) h1
     rwa [nth_lt h1,nth_lt h2] at this
    rw [eqb_true this]
    try simp (maxSteps:=9^9) only[go_sem]
 ·have d0:=decide_eq_false h0
  rw [eqb_false (fun h=>h0 (by rw [h]))]
  refine fn_enter tabOK mixes Tryz.func86 rfl rfl _ Tryz.ntmps86 _ Tryz.results86 (by simp) fun hwf=>?_
  try simp (maxSteps:=9^9) only[go_sem,d0]
end DW
end Go.Proofs.YtffdhjnbppagjaaGreat

namespace Go.Proofs.YtffdhjnbppagjaaGreat
open Go.RowKit
abbrev DVecSS:=List DVecS
abbrev RVecSS:Rp DVecSS:=Rp.slice RVecS (by decide)
abbrev DScene:=DVec × (DVec × (DVecS × (DVecSS × DVecS)))
abbrev RScene:Rp DScene:=Rp.prod RVec (Rp.prod RVec (Rp.prod RVecS (Rp.prod RVecSS RVecS)))
def tVecSS:DVecSS->Nat
 | []=>0
 | x :: l=>x.length+tVecSS l
theorem tVecSS_snoc (l:DVecSS) (x:DVecS):tVecSS (l++[x])=tVecSS l+x.length:=by
 induction l with
 | nil=>simp [tVecSS]
 | cons y l ih=>simp [tVecSS,ih]; omega
theorem tVecSS_take (l:DVecSS) (k:Nat):tVecSS (l.take k)<=tVecSS l:=by
 induction l generalizing k with
 | nil=>simp [tVecSS]
 | cons y l ih=>cases k with
  | zero=>simp [tVecSS]
  | succ k=>have:=ih k; simp [tVecSS]; omega
theorem tVecSS_mem {l:DVecSS} {i:Nat} (h:i < l.length):l[i].length<=tVecSS l:=by
 have h1:=tVecSS_take l (i+1)
 rw [List.take_succ_eq_append_getElem h,tVecSS_snoc] at h1
 omega
def tScene (x:DScene):Nat:=x.2.2.1.length+((x.2.2.2.1.length+tVecSS x.2.2.2.1)+x.2.2.2.2.length)
namespace DW
theorem szVecSS_fn (x:DVecSS) (left:Int) (h0:0<=left) (h1:left<=1048576):Fn Tryz.prog 64 [⟨.slice (.slice DW.tVec),x⟩,⟨.int,left⟩] false [⟨.int,szr left (x.length+Go.Proofs.YtffdhjnbppagjaaGreat.tVecSS x)⟩]:=by
 by_cases h:left - (x.length:Int) < 0
 ·rw [<-szr_lt (by omega)]
  have d:=decide_eq_true h
  refine fn_enter tabOK mixes Tryz.func64 rfl rfl _ Tryz.ntmps64 _ Tryz.results64 (by simp) fun hwf=>?_
  have hl:x.length<=9223372036854775807:=(hwf ⟨.slice (.slice DW.tVec),x⟩ (by simp)).1
  try simp (maxSteps:=9^9) only[go_sem]
  repeat refine And.intro (by first|omega|(constructor<;>omega)|kernel_rfl) ?_
  try simp (maxSteps:=9^9) only[go_sem,d]
  all_goals repeat refine And.intro (by first|omega|(constructor<;>omega)|kernel_rfl) ?_
  all_goals first|kernel_rfl|omega|rfl
 ·have d:=decide_eq_false h
  have hr0:=szr_lo left (x.length+Go.Proofs.YtffdhjnbppagjaaGreat.tVecSS x) h0
  refine fn_enter tabOK mixes Tryz.func64 rfl rfl _ Tryz.ntmps64 _ Tryz.results64 (by simp) fun hwf=>?_
  have hl:x.length<=9223372036854775807:=(hwf ⟨.slice (.slice DW.tVec),x⟩ (by simp)).1
  try simp (maxSteps:=9^9) only[go_sem]
  repeat refine And.intro (by first|omega|(constructor<;>omega)|kernel_rfl) ?_
  try simp (maxSteps:=9^9) only[go_sem,d]
  refine LoopG.intro _ _ _ (fun i:Nat=>⟨[(0,.sl (.slice DW.tVec) x),(1,.sc (.int .i64 (szr left (x.length+Go.Proofs.YtffdhjnbppagjaaGreat.tVecSS (x.take i))))),(5,.sc (.int .i64 i))],[]⟩) (fun i=>i<=x.length/\0<=szr left (x.length+Go.Proofs.YtffdhjnbppagjaaGreat.tVecSS (x.take i))) (fun i=>x.length - i) 0 ?_ ⟨Nat.zero_le _,by
   have e:szr left (x.length+Go.Proofs.YtffdhjnbppagjaaGreat.tVecSS (x.take 0))=left - x.length:=by simp [Go.Proofs.YtffdhjnbppagjaaGreat.tVecSS]; exact (szr_ge (by omega)).symm
   rw [e]; omega⟩ ?_
  ·have e:szr left (x.length+Go.Proofs.YtffdhjnbppagjaaGreat.tVecSS (x.take 0))=left - x.length:=by simp [Go.Proofs.YtffdhjnbppagjaaGreat.tVecSS]; exact (szr_ge (by omega)).symm
   rw [e]
   refine Wk.mk [] ?_
   try simp (maxSteps:=9^9) only[go_sem]
   try (and_intros<;>first|rfl|omega|exact ⟨_,rfl⟩)
  ·rintro i ⟨hi,hle⟩
   have hr1:=szr_lo left (x.length+Go.Proofs.YtffdhjnbppagjaaGreat.tVecSS (x.take i)) h0
   try simp (maxSteps:=9^9) only[go_sem]
   refine CondW_dec (fun hA=>?_) (fun hA=>?_)
   ·have hlt:i < x.length:=by omega
    have hts:Go.Proofs.YtffdhjnbppagjaaGreat.tVecSS (x.take i)+x[i].length=Go.Proofs.YtffdhjnbppagjaaGreat.tVecSS (x.take (i+1)):=by rw [List.take_succ_eq_append_getElem hlt,tVecSS_snoc]
    have c1:=szVecS_fn (nth (t:=(.slice DW.tVec)) x i) (szr left (x.length+Go.Proofs.YtffdhjnbppagjaaGreat.tVecSS (x.take i))) hle (by omega)
    rw [nth_lt hlt,szr_add _ _ _ hle,Nat.add_assoc,hts] at c1
    rw [<-nth_lt (t:=(.slice DW.tVec)) hlt] at c1
    have hr2:=szr_lo left (x.length+Go.Proofs.YtffdhjnbppagjaaGreat.tVecSS (x.take (i+1))) h0
    by_cases e1:szr left (x.length+Go.Proofs.YtffdhjnbppagjaaGreat.tVecSS (x.take (i+1))) < 0
    ·have d1:=decide_eq_true e1
     have hf:=szr_fail e1 (b:=x.length+Go.Proofs.YtffdhjnbppagjaaGreat.tVecSS x) (Nat.add_le_add_left (tVecSS_take x (i+1)) _)
     rw [<-hf]
     try simp (maxSteps:=9^9) only[go_sem]
     repeat refine And.intro (by first|omega|(constructor<;>omega)|kernel_rfl) ?_
     refine CallW.mk (c1) ?_
     try simp (maxSteps:=9^9) only[go_sem]
     try simp (maxSteps:=9^9) only[go_sem,d1]
     all_goals repeat refine And.intro (by first|omega|(constructor<;>omega)|kernel_rfl) ?_
     all_goals first|kernel_rfl|omega|rfl
    ·have d1:=decide_eq_false e1
     try simp (maxSteps:=9^9) only[go_sem]
     repeat refine And.intro (by first|omega|(constructor<;>omega)|kernel_rfl) ?_
     refine CallW.mk (c1) ?_
     try simp (maxSteps:=9^9) only[go_sem]
     try simp (maxSteps:=9^9) only[go_sem,d1]
     repeat refine And.intro (by first|omega|(constructor<;>omega)|kernel_rfl) ?_
     refine LoopK.mk (i+1) ?_ ⟨by omega,by omega⟩ (by omega)
     refine Wk.mk [] ?_
     try simp (maxSteps:=9^9) only[go_sem]
     try (and_intros<;>first|rfl|omega|exact ⟨_,rfl⟩)
   ·have hi2:i=x.length:=by omega
    subst hi2
    rw [List.take_length] at hr1 ⊢
    try simp (maxSteps:=9^9) only[go_sem]
    all_goals repeat refine And.intro (by first|omega|(constructor<;>omega)|kernel_rfl) ?_
    all_goals first|kernel_rfl|omega|rfl
theorem toVecSS_fn (x:DVecSS) (hs:x.length+Go.Proofs.YtffdhjnbppagjaaGreat.tVecSS x<=1048576):Fn Tryz.prog 77 [⟨.slice (.slice DW.tVec),x⟩] true [⟨.slice (.slice DW.tVec),x⟩]:=by
 refine fn_enter tabOK mixes Tryz.func77 rfl rfl _ Tryz.ntmps77 _ Tryz.results77 (by simp) fun hwf=>?_
 try simp (maxSteps:=9^9) only[go_sem]
 repeat refine And.intro (by first|omega|(constructor<;>omega)|kernel_rfl) ?_
 refine LoopG.intro _ _ _ (fun i:Nat=>⟨[(0,.sl (.slice DW.tVec) x),(3,.row 0 0),(4,.sc (.int .i64 i))],[(0,.row 42 (.slice DW.tVec) 0 true (x.take i++List.replicate (x.length - i) ([]:DVecS)))]⟩) (fun i=>i<=x.length) (fun i=>x.length - i) 0 ?_ (Nat.zero_le _) ?_
 ·refine Wk.mk [] ?_
  try simp (maxSteps:=9^9) only[go_sem]
  try (and_intros<;>first|rfl|omega|exact ⟨_,rfl⟩)
 ·rintro i hi
  have hlen:(x.take i++List.replicate (x.length - i) ([]:DVecS)).length=x.length:=by simp; omega
  try simp (maxSteps:=9^9) only[go_sem]
  refine CondW_dec (fun hA=>?_) (fun hA=>?_)
  ·have hlt:i < x.length:=by omega
   have hset:(x.take i++List.replicate (x.length - i) ([]:DVecS)).set i (nth (t:=(.slice DW.tVec)) x i)=x.take (i+1)++List.replicate (x.length - (i+1)) ([]:DVecS):=by
    rw [List.set_append_right _ _ (by rw [List.length_take]; omega),List.length_take,show i - min i x.length=0 by omega,show x.length - i=(x.length - (i+1))+1 by omega,List.replicate_succ,List.set_cons_zero,nth_lt hlt]
    have e:x.take (i+1)=x.take i++[x[i]]:=List.take_succ_eq_append_getElem hlt
    rw [e,List.append_assoc]; rfl
   have ht:(List.take i x).length=i:=by rw [List.length_take]; omega
   have c1:=toVecS_fn (nth (t:=(.slice DW.tVec)) x i) (by rw [nth_lt hlt]; have:=tVecSS_mem hlt; omega)
   try simp (maxSteps:=9^9) only[go_sem]
   repeat refine And.intro (by first|omega|(constructor<;>omega)|kernel_rfl) ?_
   refine CallW.mk (c1) ?_
   try simp (maxSteps:=9^9) only[go_sem]
   repeat refine And.intro (by first|omega|(constructor<;>omega)|kernel_rfl) ?_
   refine LoopK.mk (i+1) ?_ (by omega) (by omega)
   rw [<-hset]
   refine Wk.mk [] ?_
   try simp (maxSteps:=9^9) only[go_sem]
   try (and_intros<;>first|rfl|omega|exact ⟨_,rfl⟩)
  ·have:x.take i++List.replicate (x.length - i) ([]:DVecS)=x:=by
    rw [List.take_of_length_le (by omega),show x.length - i=0 by omega]; simp
   rw [this]
   try simp (maxSteps:=9^9) only[go_sem]
   all_goals repeat refine And.intro (by first|omega|(constructor<;>omega)|kernel_rfl) ?_
   all_goals first|kernel_rfl|omega|rfl
theorem eqVecSS_fn (x y:DVecSS):Fn Tryz.prog 87 [⟨.slice (.slice DW.tVec),x⟩,⟨.slice (.slice DW.tVec),y⟩] false [⟨.bool,eqb x y⟩]:=by
 by_cases h0:(x.length:Int)=y.length
 ·have d0:=decide_eq_true h0
  refine fn_enter tabOK mixes Tryz.func87 rfl rfl _ Tryz.ntmps87 _ Tryz.results87 (by simp) fun hwf=>?_
  have hl:x.length<=9223372036854775807:=(hwf ⟨.slice (.slice DW.tVec),x⟩ (by simp)).1
  try simp (maxSteps:=9^9) only[go_sem,d0]
  refine LoopG.intro _ _ _ (fun i:Nat=>⟨[(0,.sl (.slice DW.tVec) x),(1,.sl (.slice DW.tVec) y),(5,.sc (.int .i64 i))],[]⟩) (fun i=>∀ j,j < i->j < x.length->nth (t:=(.slice DW.tVec)) x j=nth (t:=(.slice DW.tVec)) y j) (fun i=>x.length - i) 0 ?_ (fun j h=>absurd h (Nat.not_lt_zero _)) ?_
  ·refine Wk.mk [] ?_
   try simp (maxSteps:=9^9) only[go_sem]
   try (and_intros<;>first|rfl|omega|exact ⟨_,rfl⟩)
  ·rintro i hi
   try simp (maxSteps:=9^9) only[go_sem]
   refine CondW_dec (fun hA=>?_) (fun hA=>?_)
   ·have c1:=eqVecS_fn (nth (t:=(.slice DW.tVec)) x i) (nth (t:=(.slice DW.tVec)) y i)
    by_cases e:nth (t:=(.slice DW.tVec)) x i=nth (t:=(.slice DW.tVec)) y i
    ·rw [eqb_true e] at c1
     try simp (maxSteps:=9^9) only[go_sem]
     repeat refine And.intro (by first|omega|(constructor<;>omega)|kernel_rfl) ?_
     refine CallW.mk (c1) ?_
     try simp (maxSteps:=9^9) only[go_sem]
     repeat refine And.intro (by first|omega|(constructor<;>omega)|kernel_rfl) ?_
     refine LoopK.mk (i+1) ?_ (fun j h1 h2=>?_) (by omega)
     ·refine Wk.mk [] ?_
      try simp (maxSteps:=9^9) only[go_sem]
      try (and_intros<;>first|rfl|omega|exact ⟨_,rfl⟩)
     ·by_cases h3:j < i
      ·exact hi j h3 h2
      ·rw [show j=i by omega]; exact e
    ·rw [eqb_false e] at c1
     rw [eqb_false (fun h=>e (by rw [h]))]
     try simp (maxSteps:=9^9) only[go_sem]
     repeat refine And.intro (by first|omega|(constructor<;>omega)|kernel_rfl) ?_
     refine CallW.mk (c1) ?_
     try simp (maxSteps:=9^9) only[go_sem]
     all_goals repeat refine And.intro (by first|omega|(constructor<;>omega)|kernel_rfl) ?_
     all_goals first|kernel_rfl|omega|rfl
   ·have:x=y:=by
     refine List.ext_getElem (by omega) fun j h1 h2=>?_
     have:=hi j (by omega) h1
     rwa [nth_lt h1,nth_lt h2] at this
    rw [eqb_true this]
    try simp (maxSteps:=9^9) only[go_sem]
 ·have d0:=decide_eq_false h0
  rw [eqb_false (fun h=>h0 (by rw [h]))]
  refine fn_enter tabOK mixes Tryz.func87 rfl rfl _ Tryz.ntmps87 _ Tryz.results87 (by simp) fun hwf=>?_
  try simp (maxSteps:=9^9) only[go_sem,d0]
theorem szScene_fn (x:DScene) (left:Int) (h0:0<=left) (h1:left<=1048576):Fn Tryz.prog 11 [⟨DW.tScene,x⟩,⟨.int,left⟩] false [⟨.int,szr left (Go.Proofs.YtffdhjnbppagjaaGreat.tScene x)⟩]:=by
 obtain ⟨⟨a1,a2⟩,⟨b1,b2⟩,r,p,l⟩:=x
 have c1:=szVecS_fn r left h0 h1
 have r1:=szr_lo left r.length h0
 have hT:Go.Proofs.YtffdhjnbppagjaaGreat.tScene ((a1,a2),(b1,b2),r,p,l)=r.length+((p.length+Go.Proofs.YtffdhjnbppagjaaGreat.tVecSS p)+l.length):=rfl
 by_cases e1:szr left r.length < 0
 ·have d1:=decide_eq_true e1
  rw [<-szr_fail e1 (b:=Go.Proofs.YtffdhjnbppagjaaGreat.tScene ((a1,a2),(b1,b2),r,p,l)) (by omega)]
  refine fn_enter tabOK mixes Tryz.func11 rfl rfl _ Tryz.ntmps11 _ Tryz.results11 (by simp) fun hwf=>?_
  try simp (maxSteps:=9^9) only[go_sem]
  repeat refine And.intro (by first|omega|(constructor<;>omega)|kernel_rfl) ?_
  refine CallW.mk (c1) ?_
  try simp (maxSteps:=9^9) only[go_sem]
  try simp (maxSteps:=9^9) only[go_sem,d1]
  all_goals repeat refine And.intro (by first|omega|(constructor<;>omega)|kernel_rfl) ?_
  all_goals first|kernel_rfl|omega|rfl
 ·have d1:=decide_eq_false e1
  have c2:=szVecSS_fn p (szr left r.length) (by omega) (by omega)
  have r2:=szr_lo (szr left r.length) (p.length+Go.Proofs.YtffdhjnbppagjaaGreat.tVecSS p) (by omega)
  have a2':=szr_add left r.length (p.length+Go.Proofs.YtffdhjnbppagjaaGreat.tVecSS p) (by omega)
  by_cases e2:szr (szr left r.length) (p.length+Go.Proofs.YtffdhjnbppagjaaGreat.tVecSS p) < 0
  ·have d2:=decide_eq_true e2
   rw [<-szr_fail (by rw [<-a2']; exact e2) (a:=r.length+(p.length+Go.Proofs.YtffdhjnbppagjaaGreat.tVecSS p)) (b:=Go.Proofs.YtffdhjnbppagjaaGreat.tScene ((a1,a2),(b1,b2),r,p,l)) (by omega)]
   refine fn_enter tabOK mixes Tryz.func11 rfl rfl _ Tryz.ntmps11 _ Tryz.results11 (by simp) fun hwf=>?_
   try simp (maxSteps:=9^9) only[go_sem]
   repeat refine And.intro (by first|omega|(constructor<;>omega)|kernel_rfl) ?_
   refine CallW.mk (c1) ?_
   try simp (maxSteps:=9^9) only[go_sem]
   try simp (maxSteps:=9^9) only[go_sem,d1]
   repeat refine And.intro (by first|omega|(constructor<;>omega)|kernel_rfl) ?_
   refine CallW.mk (c2) ?_
   try simp (maxSteps:=9^9) only[go_sem]
   try simp (maxSteps:=9^9) only[go_sem,d2]
   all_goals repeat refine And.intro (by first|omega|(constructor<;>omega)|kernel_rfl) ?_
   all_goals first|kernel_rfl|omega|rfl
  ·have d2:=decide_eq_false e2
   have c3:=szVecS_fn l (szr (szr left r.length) (p.length+Go.Proofs.YtffdhjnbppagjaaGreat.tVecSS p)) (by omega) (by omega)
   have r3:=szr_lo (szr (szr left r.length) (p.length+Go.Proofs.YtffdhjnbppagjaaGreat.tVecSS p)) l.length (by omega)
   have a3:=szr_add left (r.length+(p.length+Go.Proofs.YtffdhjnbppagjaaGreat.tVecSS p)) l.length (by rw [<-a2']; omega)
   rw [<-a2'] at a3
   rw [hT,<-Nat.add_assoc,<-a3]
   by_cases e3:szr (szr (szr left r.length) (p.length+Go.Proofs.YtffdhjnbppagjaaGreat.tVecSS p)) l.length < 0
   ·have d3:=decide_eq_true e3
    have e4:szr (szr (szr left r.length) (p.length+Go.Proofs.YtffdhjnbppagjaaGreat.tVecSS p)) l.length=-1:=by omega
    rw [e4] at d3 c3 ⊢
    refine fn_enter tabOK mixes Tryz.func11 rfl rfl _ Tryz.ntmps11 _ Tryz.results11 (by simp) fun hwf=>?_
    try simp (maxSteps:=9^9) only[go_sem]
    repeat refine And.intro (by first|omega|(constructor<;>omega)|kernel_rfl) ?_
    refine CallW.mk (c1) ?_
    try simp (maxSteps:=9^9) only[go_sem]
    try simp (maxSteps:=9^9) only[go_sem,d1]
    repeat refine And.intro (by first|omega|(constructor<;>omega)|kernel_rfl) ?_
    refine CallW.mk (c2) ?_
    try simp (maxSteps:=9^9) only[go_sem]
    try simp (maxSteps:=9^9) only[go_sem,d2]
    repeat refine And.intro (by first|omega|(constructor<;>omega)|kernel_rfl) ?_
    refine CallW.mk (c3) ?_
    try simp (maxSteps:=9^9) only[go_sem]
    try simp (maxSteps:=9^9) only[go_sem,d3]
    all_goals repeat refine And.intro (by first|omega|(constructor<;>omega)|kernel_rfl) ?_
    all_goals first|kernel_rfl|omega|rfl
   ·have d3:=decide_eq_false e3
    refine fn_enter tabOK mixes Tryz.func11 rfl rfl _ Tryz.ntmps11 _ Tryz.results11 (by simp) fun hwf=>?_
    try simp (maxSteps:=9^9) only[go_sem]
    repeat refine And.intro (by first|omega|(constructor<;>omega)|kernel_rfl) ?_
    refine CallW.mk (c1) ?_
    try simp (maxSteps:=9^9) only[go_sem]
    try simp (maxSteps:=9^9) only[go_sem,d1]
    repeat refine And.intro (by first|omega|(constructor<;>omega)|kernel_rfl) ?_
    refine CallW.mk (c2) ?_
    try simp (maxSteps:=9^9) only[go_sem]
    try simp (maxSteps:=9^9) only[go_sem,d2]
    repeat refine And.intro (by first|omega|(constructor<;>omega)|kernel_rfl) ?_
    refine CallW.mk (c3) ?_
    try simp (maxSteps:=9^9) only[go_sem]
    try simp (maxSteps:=9^9) only[go_sem,d3]
    all_goals repeat refine And.intro (by first|omega|(constructor<;>omega)|kernel_rfl) ?_
    all_goals first|kernel_rfl|omega|rfl
theorem toScene_fn (x:DScene) (hs:Go.Proofs.YtffdhjnbppagjaaGreat.tScene x<=1048576):Fn Tryz.prog 14 [⟨DW.tScene,x⟩] true [⟨DW.tScene,x⟩]:=by
 obtain ⟨⟨a1,a2⟩,⟨b1,b2⟩,r,p,l⟩:=x
 have hT:Go.Proofs.YtffdhjnbppagjaaGreat.tScene ((a1,a2),(b1,b2),r,p,l)=r.length+((p.length+Go.Proofs.YtffdhjnbppagjaaGreat.tVecSS p)+l.length):=rfl
 have c1:=toVec_fn (a1,a2)
 have c2:=toVec_fn (b1,b2)
 have c3:=toVecS_fn r (by omega)
 have c4:=toVecSS_fn p (by omega)
 have c5:=toVecS_fn l (by omega)
 refine fn_enter tabOK mixes Tryz.func14 rfl rfl _ Tryz.ntmps14 _ Tryz.results14 (by simp) fun hwf=>?_
 try simp (maxSteps:=9^9) only[go_sem]
 repeat refine And.intro (by first|omega|(constructor<;>omega)|kernel_rfl) ?_
 refine CallW.mk (c1) ?_
 try simp (maxSteps:=9^9) only[go_sem]
 repeat refine And.intro (by first|omega|(constructor<;>omega)|kernel_rfl) ?_
 refine CallW.mk (c2) ?_
 try simp (maxSteps:=9^9) only[go_sem]
 repeat refine And.intro (by first|omega|(constructor<;>omega)|kernel_rfl) ?_
 refine CallW.mk (c3) ?_
 try simp (maxSteps:=9^9) only[go_sem]
 repeat refine And.intro (by first|omega|(constructor<;>omega)|kernel_rfl) ?_
 refine CallW.mk (c4) ?_
 try simp (maxSteps:=9^9) only[go_sem]
 repeat refine And.intro (by first|omega|(constructor<;>omega)|kernel_rfl) ?_
 refine CallW.mk (c5) ?_
 try simp (maxSteps:=9^9) only[go_sem]
 all_goals repeat refine And.intro (by first|omega|(constructor<;>omega)|kernel_rfl) ?_
 all_goals first|kernel_rfl|omega|rfl
theorem eqScene_fn (x y:DScene):Fn Tryz.prog 18 [⟨DW.tScene,x⟩,⟨DW.tScene,y⟩] false [⟨.bool,eqb x y⟩]:=by
 obtain ⟨a,b,r,p,l⟩:=x
 obtain ⟨a',b',r',p',l'⟩:=y
 have c1:=eqVec_fn a a'
 have c2:=eqVec_fn b b'
 have c3:=eqVecS_fn r r'
 have c4:=eqVecSS_fn p p'
 have c5:=eqVecS_fn l l'
 by_cases e1:a=a'
 rotate_left
 ·rw [eqb_false e1] at c1
  rw [eqb_false (fun h=>e1 (congrArg (fun z=>z.1) h))]
  refine fn_enter tabOK mixes Tryz.func18 rfl rfl _ Tryz.ntmps18 _ Tryz.results18 (by simp) fun hwf=>?_
  try simp (maxSteps:=9^9) only[go_sem]
  repeat refine And.intro (by first|omega|(constructor<;>omega)|kernel_rfl) ?_
  refine CallW.mk (c1) ?_
  try simp (maxSteps:=9^9) only[go_sem]
  all_goals repeat refine And.intro (by first|omega|(constructor<;>omega)|kernel_rfl) ?_
  all_goals first|kernel_rfl|omega|rfl
 rw [eqb_true e1] at c1
 by_cases e2:b=b'
 rotate_left
 ·rw [eqb_false e2] at c2
  rw [eqb_false (fun h=>e2 (congrArg (fun z=>z.2.1) h))]
  refine fn_enter tabOK mixes Tryz.func18 rfl rfl _ Tryz.ntmps18 _ Tryz.results18 (by simp) fun hwf=>?_
  try simp (maxSteps:=9^9) only[go_sem]
  repeat refine And.intro (by first|omega|(constructor<;>omega)|kernel_rfl) ?_
  refine CallW.mk (c1) ?_
  try simp (maxSteps:=9^9) only[go_sem]
  repeat refine And.intro (by first|omega|(constructor<;>omega)|kernel_rfl) ?_
  refine CallW.mk (c2) ?_
  try simp (maxSteps:=9^9) only[go_sem]
  all_goals repeat refine And.intro (by first|omega|(constructor<;>omega)|kernel_rfl) ?_
  all_goals first|kernel_rfl|omega|rfl
 rw [eqb_true e2] at c2
 by_cases e3:r=r'
 rotate_left
 ·rw [eqb_false e3] at c3
  rw [eqb_false (fun h=>e3 (congrArg (fun z=>z.2.2.1) h))]
  refine fn_enter tabOK mixes Tryz.func18 rfl rfl _ Tryz.ntmps18 _ Tryz.results18 (by simp) fun hwf=>?_
  try simp (maxSteps:=9^9) only[go_sem]
  repeat refine And.intro (by first|omega|(constructor<;>omega)|kernel_rfl) ?_
  refine CallW.mk (c1) ?_
  try simp (maxSteps:=9^9) only[go_sem]
  repeat refine And.intro (by first|omega|(constructor<;>omega)|kernel_rfl) ?_
  refine CallW.mk (c2) ?_
  try simp (maxSteps:=9^9) only[go_sem]
  repeat refine And.intro (by first|omega|(constructor<;>omega)|kernel_rfl) ?_
  refine CallW.mk (c3) ?_
  try simp (maxSteps:=9^9) only[go_sem]
  all_goals repeat refine And.intro (by first|omega|(constructor<;>omega)|kernel_rfl) ?_
  all_goals first|kernel_rfl|omega|rfl
 rw [eqb_true e3] at c3
 by_cases e4:p=p'
 rotate_left
 ·rw [eqb_false e4] at c4
  rw [eqb_false (fun h=>e4 (congrArg (fun z=>z.2.2.2.1) h))]
  refine fn_enter tabOK mixes Tryz.func18 rfl rfl _ Tryz.ntmps18 _ Tryz.results18 (by simp) fun hwf=>?_
  try simp (maxSteps:=9^9) only[go_sem]
  repeat refine And.intro (by first|omega|(constructor<;>omega)|kernel_rfl) ?_
  refine CallW.mk (c1) ?_
  try simp (maxSteps:=9^9) only[go_sem]
  repeat refine And.intro (by first|omega|(constructor<;>omega)|kernel_rfl) ?_
  refine CallW.mk (c2) ?_
  try simp (maxSteps:=9^9) only[go_sem]
  repeat refine And.intro (by first|omega|(constructor<;>omega)|kernel_rfl) ?_
  refine CallW.mk (c3) ?_
  try simp (maxSteps:=9^9) only[go_sem]
  repeat refine And.intro (by first|omega|(constructor<;>omega)|kernel_rfl) ?_
  refine CallW.mk (c4) ?_
  try simp (maxSteps:=9^9) only[go_sem]
  all_goals repeat refine And.intro (by first|omega|(constructor<;>omega)|kernel_rfl) ?_
  all_goals first|kernel_rfl|omega|rfl
 rw [eqb_true e4] at c4
 by_cases e5:l=l'
 rotate_left
 ·rw [eqb_false e5] at c5
  rw [eqb_false (fun h=>e5 (congrArg (fun z=>z.2.2.2.2) h))]
  refine fn_enter tabOK mixes Tryz.func18 rfl rfl _ Tryz.ntmps18 _ Tryz.results18 (by simp) fun hwf=>?_
  try simp (maxSteps:=9^9) only[go_sem]
  repeat refine And.intro (by first|omega|(constructor<;>omega)|kernel_rfl) ?_
  refine CallW.mk (c1) ?_
  try simp (maxSteps:=9^9) only[go_sem]
  repeat refine And.intro (by first|omega|(constructor<;>omega)|kernel_rfl) ?_
  refine CallW.mk (c2) ?_
  try simp (maxSteps:=9^9) only[go_sem]
  repeat refine And.intro (by first|omega|(constructor<;>omega)|kernel_rfl) ?_
  refine CallW.mk (c3) ?_
  try simp (maxSteps:=9^9) only[go_sem]
  repeat refine And.intro (by first|omega|(constructor<;>omega)|kernel_rfl) ?_
  refine CallW.mk (c4) ?_
  try simp (maxSteps:=9^9) only[go_sem]
  repeat refine And.intro (by first|omega|(constructor<;>omega)|kernel_rfl) ?_
  refine CallW.mk (c5) ?_
  try simp (maxSteps:=9^9) only[go_sem]
  all_goals repeat refine And.intro (by first|omega|(constructor<;>omega)|kernel_rfl) ?_
  all_goals first|kernel_rfl|omega|rfl
 rw [eqb_true e5] at c5
 rw [eqb_true (by rw [e1,e2,e3,e4,e5])]
 refine fn_enter tabOK mixes Tryz.func18 rfl rfl _ Tryz.ntmps18 _ Tryz.results18 (by simp) fun hwf=>?_
 try simp (maxSteps:=9^9) only[go_sem]
 repeat refine And.intro (by first|omega|(constructor<;>omega)|kernel_rfl) ?_
 refine CallW.mk (c1) ?_
 try simp (maxSteps:=9^9) only[go_sem]
 repeat refine And.intro (by first|omega|(constructor<;>omega)|kernel_rfl) ?_
 refine CallW.mk (c2) ?_
 try simp (maxSteps:=9^9) only[go_sem]
 repeat refine And.intro (by first|omega|(constructor<;>omega)|kernel_rfl) ?_
 refine CallW.mk (c3) ?_
 try simp (maxSteps:=9^9) only[go_sem]
 repeat refine And.intro (by first|omega|(constructor<;>omega)|kernel_rfl) ?_
 refine CallW.mk (c4) ?_
 try simp (maxSteps:=9^9) only[go_sem]
 repeat refine And.intro (by first|omega|(constructor<;>omega)|kernel_rfl) ?_
 refine CallW.mk (c5) ?_
 try simp (maxSteps:=9^9) only[go_sem]
 all_goals repeat refine And.intro (by first|omega|(constructor<;>omega)|kernel_rfl) ?_
 all_goals first|kernel_rfl|omega|rfl
end DW
end Go.Proofs.YtffdhjnbppagjaaGreat

namespace Go.Proofs.YtffdhjnbppagjaaGreat
open Go.RowKit
section
variable {H:Type} {enc:TypeId × Value->H} {w:World} {P:Program}
theorem Opens.prod5 {α β γ δ ε:Type} {t:TypeId} {A:Rp α} {B:Rp β} {C:Rp γ} {D:Rp δ} {E:Rp ε} {f0 f1 f2 f3 f4:Field} (ht:P.underlying t=some (.struct #[f0,f1,f2,f3,f4])) (o0:f0.offset=0) (o1:f1.offset=A.size) (o2:f2.offset=A.size+B.size) (o3:f3.offset=A.size+B.size+C.size) (o4:f4.offset=A.size+B.size+C.size+D.size)
  (s0:P.cellsOf f0.type=A.size) (s1:P.cellsOf f1.type=B.size) (s2:P.cellsOf f2.type=C.size) (s3:P.cellsOf f3.type=D.size) (s4:P.cellsOf f4.type=E.size) (s:P.cellsOf t=A.size+(B.size+(C.size+(D.size+E.size)))) (h0:Opens enc P w f0.type A) (h1:Opens enc P w f1.type B) (h2:Opens enc P w f2.type C) (h3:Opens enc P w f3.type D) (h4:Opens enc P w f4.type E):Opens enc P w t (Rp.prod A (Rp.prod B (Rp.prod C (Rp.prod D E)))):=fun fuel cs x h=>by
 obtain ⟨xs,n,_,_,hl,hxl,hf⟩:=DataW.trod_struct ht h
 have e0:=hf 0 f0 rfl
 have e1:=hf 1 f1 rfl
 have e2:=hf 2 f2 rfl
 have e3:=hf 3 f3 rfl
 have e4:=hf 4 f4 rfl
 have hxl':xs.length=5:=hxl
 rw [o0,s0,List.getElem?_eq_getElem (by omega)] at e0
 rw [o1,s1,List.getElem?_eq_getElem (by omega)] at e1
 rw [o2,s2,List.getElem?_eq_getElem (by omega)] at e2
 rw [o3,s3,List.getElem?_eq_getElem (by omega)] at e3
 rw [o4,s4,List.getElem?_eq_getElem (by omega)] at e4
 obtain ⟨a,fa,ra⟩:=h0 _ _ _ e0
 obtain ⟨b,fb,rb⟩:=h1 _ _ _ e1
 obtain ⟨c,fc,rc⟩:=h2 _ _ _ e2
 obtain ⟨d,fd,rd⟩:=h3 _ _ _ e3
 obtain ⟨e,fe,re⟩:=h4 _ _ _ e4
 refine ⟨(a,b,c,d,e),fa++(fb++(fc++(fd++fe))),_,cs.drop A.size,fa,_,?_,rfl,ra,_,(cs.drop A.size).drop B.size,fb,_,?_,rfl,rb,_,((cs.drop A.size).drop B.size).drop C.size,fc,_,?_,rfl,rc,_,_,fd,fe,?_,rfl,rd,re⟩
 ·rw [List.drop_zero,List.take_append_drop]
 ·rw [List.take_append_drop]
 ·rw [<-List.drop_drop,List.take_append_drop]
 ·rw [show cs.drop (A.size+B.size+C.size)=((cs.drop A.size).drop B.size).drop C.size by simp only [List.drop_drop,Nat.add_assoc],show cs.drop (A.size+B.size+C.size+D.size)=(((cs.drop A.size).drop B.size).drop C.size).drop D.size by simp only [List.drop_drop,Nat.add_assoc],List.take_of_length_le (show ((((cs.drop A.size).drop B.size).drop C.size).drop D.size).length<=E.size by simp; omega),List.take_append_drop]
theorem oVecX:Opens enc Tryz.prog w 23 RVec:=Opens.prod Tryz.underlying23 rfl rfl (by kernel_rfl) (by kernel_rfl) (by kernel_rfl) oInt oInt
theorem oVecSX:Opens enc Tryz.prog w 24 RVecS:=Opens.slice Tryz.underlying24 (by kernel_rfl) oVecX
theorem oVecSS:Opens enc Tryz.prog w 25 RVecSS:=Opens.slice Tryz.underlying25 (by kernel_rfl) oVecSX
theorem oScene:Opens enc Tryz.prog w 27 RScene:=Opens.prod5 Tryz.underlying27 rfl rfl rfl rfl rfl (by kernel_rfl) (by kernel_rfl) (by kernel_rfl) (by kernel_rfl) (by kernel_rfl) (by kernel_rfl) oVecX oVecX oVecSX oVecSS oVecSX
end
end Go.Proofs.YtffdhjnbppagjaaGreat
