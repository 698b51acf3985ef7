/-
  Texts of a proof, one behind another: Dw58, Dw59, Sch, Dw61, Dw90, Dw91, Dw92, Dw93, Dw94, Dw95, Dw96, Dw97, Dw98, Dw99, Dw100, Dw101, LwT, LwT2, OpensT, LawCountStates, LawCountDeadlocks.
-/
import Derived.WideKeyPair
import Derived.DeepKeys4
import Derived.Test.YtbnkojgcbmfloaaGreatKD5
set_option linter.all false
set_option maxRecDepth 100000
namespace Go.Proofs.YtbnkojgcbmfloaaGreat.DW
open Go.RowKit
noncomputable def plT1 (l:List DT):tTabs.den:=((([],[],[]),([],[],[]),([],[],[])))
noncomputable def plD1 (l:List DT):tPlanner.den:=(l,(plT1 l,some 0))
set_option maxHeartbeats 4000000 in
theorem newPlanner_fn1 (l:List DT) (hl:l.length=1):FnNP Tryz.prog 33 [⟨.slice tTour,l⟩] tPl0 (l,plT1 l):=by
 unfold plT1
 refine fnNP_enter tabOK mixes Tryz.func33 rfl rfl _ Tryz.ntmps33 _ Tryz.results33 (by simp) fun hwf=>?_
 try simp (maxSteps:=9^9) only[go_sem]
 repeat refine AI ?_
 refine LoopG.intro _ _ _ (fun y:Nat=>match y with|0=>⟨[(0,.sl tTour l),(3,.ptr 1 0),(12,.sl tTour l),(13,.sc (.int .i64 l.length)),(14,.sc (.int .i64 0))],[(0,.ob none 0 (.map [])),(1,.box [.sl tTour l,.sl (.slice .bool) ([]),.sl (.slice .bool) ([]),.sl (.slice .bool) ([]),.sl (.slice .bool) ([]),.sl (.slice .bool) ([]),.sl (.slice .bool) ([]),.sl (.slice .bool) ([]),.sl (.slice .bool) ([]),.sl (.slice .bool) ([]),.row 0 0])]⟩|_=>⟨[(0,.sl tTour l),(3,.ptr 1 0),(12,.sl tTour l),(13,.sc (.int .i64 l.length)),(14,.sc (.int .i64 1))],[(0,.ob none 0 (.map [])),(1,.box [.sl tTour l,.sl (.slice .bool) ([]),.sl (.slice .bool) ([]),.sl (.slice .bool) ([]),.sl (.slice .bool) ([]),.sl (.slice .bool) ([]),.sl (.slice .bool) ([]),.sl (.slice .bool) ([]),.sl (.slice .bool) ([]),.sl (.slice .bool) ([]),.row 0 0])]⟩) (fun y=>y<=1) (fun y=>1 - y) 0 ?_ (Nat.zero_le _) ?_
 ·exact WK
 ·rintro y hy
  obtain rfl|rfl:y=0\/y=1:=by omega
  ·try simp (maxSteps:=9^9) only[go_sem]
   refine CondW_dec (fun hA=>?_) (fun hA=>absurd (by rw [hl]; decide) hA)
   try simp (maxSteps:=9^9) only[go_sem]
   repeat refine AI ?_
   refine LoopG.intro _ _ _ (fun z:Nat=>match z with|0=>⟨[(0,.sl tTour l),(3,.ptr 1 0),(4,.sc (.int .i64 0)),(5,.ptr 2 0),(12,.sl tTour l),(13,.sc (.int .i64 l.length)),(14,.sc (.int .i64 0)),(19,.sl tTour l),(20,.sc (.int .i64 l.length)),(21,.sc (.int .i64 0))],[(0,.ob none 0 (.map [])),(1,.box [.sl tTour l,.sl (.slice .bool) ([]),.sl (.slice .bool) ([]),.sl (.slice .bool) ([]),.sl (.slice .bool) ([]),.sl (.slice .bool) ([]),.sl (.slice .bool) ([]),.sl (.slice .bool) ([]),.sl (.slice .bool) ([]),.sl (.slice .bool) ([]),.row 0 0]),(2,.box (cel tTour (nth (t:=tTour) l 0)))]⟩|_=>⟨[(0,.sl tTour l),(3,.ptr 1 0),(4,.sc (.int .i64 0)),(5,.ptr 2 0),(12,.sl tTour l),(13,.sc (.int .i64 l.length)),(14,.sc (.int .i64 0)),(19,.sl tTour l),(20,.sc (.int .i64 l.length)),(21,.sc (.int .i64 1))],[(0,.ob none 0 (.map [])),(1,.box [.sl tTour l,.sl (.slice .bool) ([]),.sl (.slice .bool) ([]),.sl (.slice .bool) ([]),.sl (.slice .bool) ([]),.sl (.slice .bool) ([]),.sl (.slice .bool) ([]),.sl (.slice .bool) ([]),.sl (.slice .bool) ([]),.sl (.slice .bool) ([]),.row 0 0]),(2,.box (cel tTour (nth (t:=tTour) l 0)))]⟩) (fun z=>z<=1) (fun z=>1 - z) 0 ?_ (Nat.zero_le _) ?_
   ·exact WK
   ·rintro z hz
    obtain rfl|rfl:z=0\/z=1:=by omega
    ·try simp (maxSteps:=9^9) only[go_sem]
     refine CondW_dec (fun hB=>?_) (fun hB=>absurd (by rw [hl]; decide) hB)
     try simp (maxSteps:=9^9) only[go_sem]
     repeat refine AI ?_
     refine LoopK.mk 1 ?_ (by omega) (by omega)
     exact WK
    ·try simp (maxSteps:=9^9) only[go_sem]
     refine CondW_dec (fun hB=>by rw [hl] at hB; exact absurd hB (by decide)) (fun hB=>?_)
     try simp (maxSteps:=9^9) only[go_sem]
     repeat refine AI ?_
     refine LoopK.mk 1 ?_ (by omega) (by omega)
     exact WK
  ·try simp (maxSteps:=9^9) only[go_sem]
   refine CondW_dec (fun hA=>by rw [hl] at hA; exact absurd hA (by decide)) (fun hA=>?_)
   try simp (maxSteps:=9^9) only[go_sem]
   all_goals repeat refine AI ?_
   all_goals first|kernel_rfl|omega|rfl
noncomputable def plT2 (l:List DT):tTabs.den:=((([],tabD (nth (t:=tTour) l 0) (nth (t:=tTour) l 1),[]),(tabD (nth (t:=tTour) l 1) (nth (t:=tTour) l 0),[],[]),([],[],[])))
noncomputable def plD2 (l:List DT):tPlanner.den:=(l,(plT2 l,some 0))
set_option maxHeartbeats 4000000 in
theorem newPlanner_fn2 (l:List DT) (hl:l.length=2):FnNP Tryz.prog 33 [⟨.slice tTour,l⟩] tPl0 (l,plT2 l):=by
 unfold plT2
 refine fnNP_enter tabOK mixes Tryz.func33 rfl rfl _ Tryz.ntmps33 _ Tryz.results33 (by simp) fun hwf=>?_
 try simp (maxSteps:=9^9) only[go_sem]
 repeat refine AI ?_
 refine LoopG.intro _ _ _ (fun y:Nat=>match y with|0=>⟨[(0,.sl tTour l),(3,.ptr 1 0),(12,.sl tTour l),(13,.sc (.int .i64 l.length)),(14,.sc (.int .i64 0))],[(0,.ob none 0 (.map [])),(1,.box [.sl tTour l,.sl (.slice .bool) ([]),.sl (.slice .bool) ([]),.sl (.slice .bool) ([]),.sl (.slice .bool) ([]),.sl (.slice .bool) ([]),.sl (.slice .bool) ([]),.sl (.slice .bool) ([]),.sl (.slice .bool) ([]),.sl (.slice .bool) ([]),.row 0 0])]⟩|1=>⟨[(0,.sl tTour l),(3,.ptr 1 0),(12,.sl tTour l),(13,.sc (.int .i64 l.length)),(14,.sc (.int .i64 1))],[(0,.ob none 0 (.map [])),(1,.box [.sl tTour l,.sl (.slice .bool) ([]),.sl (.slice .bool) (tabD (nth (t:=tTour) l 0) (nth (t:=tTour) l 1)),.sl (.slice .bool) ([]),.sl (.slice .bool) ([]),.sl (.slice .bool) ([]),.sl (.slice .bool) ([]),.sl (.slice .bool) ([]),.sl (.slice .bool) ([]),.sl (.slice .bool) ([]),.row 0 0])]⟩|_=>⟨[(0,.sl tTour l),(3,.ptr 1 0),(12,.sl tTour l),(13,.sc (.int .i64 l.length)),(14,.sc (.int .i64 2))],[(0,.ob none 0 (.map [])),(1,.box [.sl tTour l,.sl (.slice .bool) ([]),.sl (.slice .bool) (tabD (nth (t:=tTour) l 0) (nth (t:=tTour) l 1)),.sl (.slice .bool) ([]),.sl (.slice .bool) (tabD (nth (t:=tTour) l 1) (nth (t:=tTour) l 0)),.sl (.slice .bool) ([]),.sl (.slice .bool) ([]),.sl (.slice .bool) ([]),.sl (.slice .bool) ([]),.sl (.slice .bool) ([]),.row 0 0])]⟩) (fun y=>y<=2) (fun y=>2 - y) 0 ?_ (Nat.zero_le _) ?_
 ·exact WK
 ·rintro y hy
  obtain rfl|rfl|rfl:y=0\/y=1\/y=2:=by omega
  ·try simp (maxSteps:=9^9) only[go_sem]
   refine CondW_dec (fun hA=>?_) (fun hA=>absurd (by rw [hl]; decide) hA)
   try simp (maxSteps:=9^9) only[go_sem]
   repeat refine AI ?_
   refine LoopG.intro _ _ _ (fun z:Nat=>match z with|0=>⟨[(0,.sl tTour l),(3,.ptr 1 0),(4,.sc (.int .i64 0)),(5,.ptr 2 0),(12,.sl tTour l),(13,.sc (.int .i64 l.length)),(14,.sc (.int .i64 0)),(19,.sl tTour l),(20,.sc (.int .i64 l.length)),(21,.sc (.int .i64 0))],[(0,.ob none 0 (.map [])),(1,.box [.sl tTour l,.sl (.slice .bool) ([]),.sl (.slice .bool) ([]),.sl (.slice .bool) ([]),.sl (.slice .bool) ([]),.sl (.slice .bool) ([]),.sl (.slice .bool) ([]),.sl (.slice .bool) ([]),.sl (.slice .bool) ([]),.sl (.slice .bool) ([]),.row 0 0]),(2,.box (cel tTour (nth (t:=tTour) l 0)))]⟩|1=>⟨[(0,.sl tTour l),(3,.ptr 1 0),(4,.sc (.int .i64 0)),(5,.ptr 2 0),(12,.sl tTour l),(13,.sc (.int .i64 l.length)),(14,.sc (.int .i64 0)),(19,.sl tTour l),(20,.sc (.int .i64 l.length)),(21,.sc (.int .i64 1))],[(0,.ob none 0 (.map [])),(1,.box [.sl tTour l,.sl (.slice .bool) ([]),.sl (.slice .bool) ([]),.sl (.slice .bool) ([]),.sl (.slice .bool) ([]),.sl (.slice .bool) ([]),.sl (.slice .bool) ([]),.sl (.slice .bool) ([]),.sl (.slice .bool) ([]),.sl (.slice .bool) ([]),.row 0 0]),(2,.box (cel tTour (nth (t:=tTour) l 0)))]⟩|_=>⟨[(0,.sl tTour l),(3,.ptr 1 0),(4,.sc (.int .i64 0)),(5,.ptr 2 0),(12,.sl tTour l),(13,.sc (.int .i64 l.length)),(14,.sc (.int .i64 0)),(19,.sl tTour l),(20,.sc (.int .i64 l.length)),(21,.sc (.int .i64 2))],[(0,.ob none 0 (.map [])),(1,.box [.sl tTour l,.sl (.slice .bool) ([]),.sl (.slice .bool) (tabD (nth (t:=tTour) l 0) (nth (t:=tTour) l 1)),.sl (.slice .bool) ([]),.sl (.slice .bool) ([]),.sl (.slice .bool) ([]),.sl (.slice .bool) ([]),.sl (.slice .bool) ([]),.sl (.slice .bool) ([]),.sl (.slice .bool) ([]),.row 0 0]),(2,.box (cel tTour (nth (t:=tTour) l 0)))]⟩) (fun z=>z<=2) (fun z=>2 - z) 0 ?_ (Nat.zero_le _) ?_
   ·exact WK
   ·rintro z hz
    obtain rfl|rfl|rfl:z=0\/z=1\/z=2:=by omega
    ·try simp (maxSteps:=9^9) only[go_sem]
     refine CondW_dec (fun hB=>?_) (fun hB=>absurd (by rw [hl]; decide) hB)
     try simp (maxSteps:=9^9) only[go_sem]
     repeat refine AI ?_
     refine LoopK.mk 1 ?_ (by omega) (by omega)
     exact WK
    ·try simp (maxSteps:=9^9) only[go_sem]
     refine CondW_dec (fun hB=>?_) (fun hB=>absurd (by rw [hl]; decide) hB)
     have c1:=(TouchTableI_fn (nth (t:=tTour) l 0) (nth (t:=tTour) l 1)).sh
     try simp (maxSteps:=9^9) only[go_sem]
     repeat refine AI ?_
     repeat refine AI ?_
     refine cw c1 ?_
     try simp (maxSteps:=9^9) only[go_sem]
     repeat refine AI ?_
     refine LoopK.mk 2 ?_ (by omega) (by omega)
     exact WK
    ·try simp (maxSteps:=9^9) only[go_sem]
     refine CondW_dec (fun hB=>by rw [hl] at hB; exact absurd hB (by decide)) (fun hB=>?_)
     try simp (maxSteps:=9^9) only[go_sem]
     repeat refine AI ?_
     refine LoopK.mk 1 ?_ (by omega) (by omega)
     exact WK
  ·try simp (maxSteps:=9^9) only[go_sem]
   refine CondW_dec (fun hA=>?_) (fun hA=>absurd (by rw [hl]; decide) hA)
   try simp (maxSteps:=9^9) only[go_sem]
   repeat refine AI ?_
   refine LoopG.intro _ _ _ (fun z:Nat=>match z with|0=>⟨[(0,.sl tTour l),(3,.ptr 1 0),(4,.sc (.int .i64 1)),(5,.ptr 2 0),(12,.sl tTour l),(13,.sc (.int .i64 l.length)),(14,.sc (.int .i64 1)),(19,.sl tTour l),(20,.sc (.int .i64 l.length)),(21,.sc (.int .i64 0))],[(0,.ob none 0 (.map [])),(1,.box [.sl tTour l,.sl (.slice .bool) ([]),.sl (.slice .bool) (tabD (nth (t:=tTour) l 0) (nth (t:=tTour) l 1)),.sl (.slice .bool) ([]),.sl (.slice .bool) ([]),.sl (.slice .bool) ([]),.sl (.slice .bool) ([]),.sl (.slice .bool) ([]),.sl (.slice .bool) ([]),.sl (.slice .bool) ([]),.row 0 0]),(2,.box (cel tTour (nth (t:=tTour) l 1)))]⟩|1=>⟨[(0,.sl tTour l),(3,.ptr 1 0),(4,.sc (.int .i64 1)),(5,.ptr 2 0),(12,.sl tTour l),(13,.sc (.int .i64 l.length)),(14,.sc (.int .i64 1)),(19,.sl tTour l),(20,.sc (.int .i64 l.length)),(21,.sc (.int .i64 1))],[(0,.ob none 0 (.map [])),(1,.box [.sl tTour l,.sl (.slice .bool) ([]),.sl (.slice .bool) (tabD (nth (t:=tTour) l 0) (nth (t:=tTour) l 1)),.sl (.slice .bool) ([]),.sl (.slice .bool) (tabD (nth (t:=tTour) l 1) (nth (t:=tTour) l 0)),.sl (.slice .bool) ([]),.sl (.slice .bool) ([]),.sl (.slice .bool) ([]),.sl (.slice .bool) ([]),.sl (.slice .bool) ([]),.row 0 0]),(2,.box (cel tTour (nth (t:=tTour) l 1)))]⟩|_=>⟨[(0,.sl tTour l),(3,.ptr 1 0),(4,.sc (.int .i64 1)),(5,.ptr 2 0),(12,.sl tTour l),(13,.sc (.int .i64 l.length)),(14,.sc (.int .i64 1)),(19,.sl tTour l),(20,.sc (.int .i64 l.length)),(21,.sc (.int .i64 2))],[(0,.ob none 0 (.map [])),(1,.box [.sl tTour l,.sl (.slice .bool) ([]),.sl (.slice .bool) (tabD (nth (t:=tTour) l 0) (nth (t:=tTour) l 1)),.sl (.slice .bool) ([]),.sl (.slice .bool) (tabD (nth (t:=tTour) l 1) (nth (t:=tTour) l 0)),.sl (.slice .bool) ([]),.sl (.slice .bool) ([]),.sl (.slice .bool) ([]),.sl (.slice .bool) ([]),.sl (.slice .bool) ([]),.row 0 0]),(2,.box (cel tTour (nth (t:=tTour) l 1)))]⟩) (fun z=>z<=2) (fun z=>2 - z) 0 ?_ (Nat.zero_le _) ?_
   ·exact WK
   ·rintro z hz
    obtain rfl|rfl|rfl:z=0\/z=1\/z=2:=by omega
    ·try simp (maxSteps:=9^9) only[go_sem]
     refine CondW_dec (fun hB=>?_) (fun hB=>absurd (by rw [hl]; decide) hB)
     have c1:=(TouchTableI_fn (nth (t:=tTour) l 1) (nth (t:=tTour) l 0)).sh
     try simp (maxSteps:=9^9) only[go_sem]
     repeat refine AI ?_
     repeat refine AI ?_
     refine cw c1 ?_
     try simp (maxSteps:=9^9) only[go_sem]
     repeat refine AI ?_
     refine LoopK.mk 1 ?_ (by omega) (by omega)
     exact WK
    ·try simp (maxSteps:=9^9) only[go_sem]
     refine CondW_dec (fun hB=>?_) (fun hB=>absurd (by rw [hl]; decide) hB)
     try simp (maxSteps:=9^9) only[go_sem]
     repeat refine AI ?_
     refine LoopK.mk 2 ?_ (by omega) (by omega)
     exact WK
    ·try simp (maxSteps:=9^9) only[go_sem]
     refine CondW_dec (fun hB=>by rw [hl] at hB; exact absurd hB (by decide)) (fun hB=>?_)
     try simp (maxSteps:=9^9) only[go_sem]
     repeat refine AI ?_
     refine LoopK.mk 2 ?_ (by omega) (by omega)
     exact WK
  ·try simp (maxSteps:=9^9) only[go_sem]
   refine CondW_dec (fun hA=>by rw [hl] at hA; exact absurd hA (by decide)) (fun hA=>?_)
   try simp (maxSteps:=9^9) only[go_sem]
   all_goals repeat refine AI ?_
   all_goals first|kernel_rfl|omega|rfl
noncomputable def plT3 (l:List DT):tTabs.den:=((([],tabD (nth (t:=tTour) l 0) (nth (t:=tTour) l 1),tabD (nth (t:=tTour) l 0) (nth (t:=tTour) l 2)),(tabD (nth (t:=tTour) l 1) (nth (t:=tTour) l 0),[],tabD (nth (t:=tTour) l 1) (nth (t:=tTour) l 2)),(tabD (nth (t:=tTour) l 2) (nth (t:=tTour) l 0),tabD (nth (t:=tTour) l 2) (nth (t:=tTour) l 1),[])))
noncomputable def plD3 (l:List DT):tPlanner.den:=(l,(plT3 l,some 0))
set_option maxHeartbeats 4000000 in
theorem newPlanner_fn3 (l:List DT) (hl:l.length=3):FnNP Tryz.prog 33 [⟨.slice tTour,l⟩] tPl0 (l,plT3 l):=by
 unfold plT3
 refine fnNP_enter tabOK mixes Tryz.func33 rfl rfl _ Tryz.ntmps33 _ Tryz.results33 (by simp) fun hwf=>?_
 try simp (maxSteps:=9^9) only[go_sem]
 repeat refine AI ?_
 refine LoopG.intro _ _ _ (fun y:Nat=>match y with|0=>⟨[(0,.sl tTour l),(3,.ptr 1 0),(12,.sl tTour l),(13,.sc (.int .i64 l.length)),(14,.sc (.int .i64 0))],[(0,.ob none 0 (.map [])),(1,.box [.sl tTour l,.sl (.slice .bool) ([]),.sl (.slice .bool) ([]),.sl (.slice .bool) ([]),.sl (.slice .bool) ([]),.sl (.slice .bool) ([]),.sl (.slice .bool) ([]),.sl (.slice .bool) ([]),.sl (.slice .bool) ([]),.sl (.slice .bool) ([]),.row 0 0])]⟩|1=>⟨[(0,.sl tTour l),(3,.ptr 1 0),(12,.sl tTour l),(13,.sc (.int .i64 l.length)),(14,.sc (.int .i64 1))],[(0,.ob none 0 (.map [])),(1,.box [.sl tTour l,.sl (.slice .bool) ([]),.sl (.slice .bool) (tabD (nth (t:=tTour) l 0) (nth (t:=tTour) l 1)),.sl (.slice .bool) (tabD (nth (t:=tTour) l 0) (nth (t:=tTour) l 2)),.sl (.slice .bool) ([]),.sl (.slice .bool) ([]),.sl (.slice .bool) ([]),.sl (.slice .bool) ([]),.sl (.slice .bool) ([]),.sl (.slice .bool) ([]),.row 0 0])]⟩|2=>⟨[(0,.sl tTour l),(3,.ptr 1 0),(12,.sl tTour l),(13,.sc (.int .i64 l.length)),(14,.sc (.int .i64 2))],[(0,.ob none 0 (.map [])),(1,.box [.sl tTour l,.sl (.slice .bool) ([]),.sl (.slice .bool) (tabD (nth (t:=tTour) l 0) (nth (t:=tTour) l 1)),.sl (.slice .bool) (tabD (nth (t:=tTour) l 0) (nth (t:=tTour) l 2)),.sl (.slice .bool) (tabD (nth (t:=tTour) l 1) (nth (t:=tTour) l 0)),.sl (.slice .bool) ([]),.sl (.slice .bool) (tabD (nth (t:=tTour) l 1) (nth (t:=tTour) l 2)),.sl (.slice .bool) ([]),.sl (.slice .bool) ([]),.sl (.slice .bool) ([]),.row 0 0])]⟩|_=>⟨[(0,.sl tTour l),(3,.ptr 1 0),(12,.sl tTour l),(13,.sc (.int .i64 l.length)),(14,.sc (.int .i64 3))],[(0,.ob none 0 (.map [])),(1,.box [.sl tTour l,.sl (.slice .bool) ([]),.sl (.slice .bool) (tabD (nth (t:=tTour) l 0) (nth (t:=tTour) l 1)),.sl (.slice .bool) (tabD (nth (t:=tTour) l 0) (nth (t:=tTour) l 2)),.sl (.slice .bool) (tabD (nth (t:=tTour) l 1) (nth (t:=tTour) l 0)),.sl (.slice .bool) ([]),.sl (.slice .bool) (tabD (nth (t:=tTour) l 1) (nth (t:=tTour) l 2)),.sl (.slice .bool) (tabD (nth (t:=tTour) l 2) (nth (t:=tTour) l 0)),.sl (.slice .bool) (tabD (nth (t:=tTour) l 2) (nth (t:=tTour) l 1)),.sl (.slice .bool) ([]),.row 0 0])]⟩) (fun y=>y<=3) (fun y=>3 - y) 0 ?_ (Nat.zero_le _) ?_
 ·exact WK
 ·rintro y hy
  obtain rfl|rfl|rfl|rfl:y=0\/y=1\/y=2\/y=3:=by omega
  ·try simp (maxSteps:=9^9) only[go_sem]
   refine CondW_dec (fun hA=>?_) (fun hA=>absurd (by rw [hl]; decide) hA)
   try simp (maxSteps:=9^9) only[go_sem]
   repeat refine AI ?_
   refine LoopG.intro _ _ _ (fun z:Nat=>match z with|0=>⟨[(0,.sl tTour l),(3,.ptr 1 0),(4,.sc (.int .i64 0)),(5,.ptr 2 0),(12,.sl tTour l),(13,.sc (.int .i64 l.length)),(14,.sc (.int .i64 0)),(19,.sl tTour l),(20,.sc (.int .i64 l.length)),(21,.sc (.int .i64 0))],[(0,.ob none 0 (.map [])),(1,.box [.sl tTour l,.sl (.slice .bool) ([]),.sl (.slice .bool) ([]),.sl (.slice .bool) ([]),.sl (.slice .bool) ([]),.sl (.slice .bool) ([]),.sl (.slice .bool) ([]),.sl (.slice .bool) ([]),.sl (.slice .bool) ([]),.sl (.slice .bool) ([]),.row 0 0]),(2,.box (cel tTour (nth (t:=tTour) l 0)))]⟩|1=>⟨[(0,.sl tTour l),(3,.ptr 1 0),(4,.sc (.int .i64 0)),(5,.ptr 2 0),(12,.sl tTour l),(13,.sc (.int .i64 l.length)),(14,.sc (.int .i64 0)),(19,.sl tTour l),(20,.sc (.int .i64 l.length)),(21,.sc (.int .i64 1))],[(0,.ob none 0 (.map [])),(1,.box [.sl tTour l,.sl (.slice .bool) ([]),.sl (.slice .bool) ([]),.sl (.slice .bool) ([]),.sl (.slice .bool) ([]),.sl (.slice .bool) ([]),.sl (.slice .bool) ([]),.sl (.slice .bool) ([]),.sl (.slice .bool) ([]),.sl (.slice .bool) ([]),.row 0 0]),(2,.box (cel tTour (nth (t:=tTour) l 0)))]⟩|2=>⟨[(0,.sl tTour l),(3,.ptr 1 0),(4,.sc (.int .i64 0)),(5,.ptr 2 0),(12,.sl tTour l),(13,.sc (.int .i64 l.length)),(14,.sc (.int .i64 0)),(19,.sl tTour l),(20,.sc (.int .i64 l.length)),(21,.sc (.int .i64 2))],[(0,.ob none 0 (.map [])),(1,.box [.sl tTour l,.sl (.slice .bool) ([]),.sl (.slice .bool) (tabD (nth (t:=tTour) l 0) (nth (t:=tTour) l 1)),.sl (.slice .bool) ([]),.sl (.slice .bool) ([]),.sl (.slice .bool) ([]),.sl (.slice .bool) ([]),.sl (.slice .bool) ([]),.sl (.slice .bool) ([]),.sl (.slice .bool) ([]),.row 0 0]),(2,.box (cel tTour (nth (t:=tTour) l 0)))]⟩|_=>⟨[(0,.sl tTour l),(3,.ptr 1 0),(4,.sc (.int .i64 0)),(5,.ptr 2 0),(12,.sl tTour l),(13,.sc (.int .i64 l.length)),(14,.sc (.int .i64 0)),(19,.sl tTour l),(20,.sc (.int .i64 l.length)),(21,.sc (.int .i64 3))],[(0,.ob none 0 (.map [])),(1,.box [.sl tTour l,.sl (.slice .bool) ([]),.sl (.slice .bool) (tabD (nth (t:=tTour) l 0) (nth (t:=tTour) l 1)),.sl (.slice .bool) (tabD (nth (t:=tTour) l 0) (nth (t:=tTour) l 2)),.sl (.slice .bool) ([]),.sl (.slice .bool) ([]),.sl (.slice .bool) ([]),.sl (.slice .bool) ([]),.sl (.slice .bool) ([]),.sl (.slice .bool) ([]),.row 0 0]),(2,.box (cel tTour (nth (t:=tTour) l 0)))]⟩) (fun z=>z<=3) (fun z=>3 - z) 0 ?_ (Nat.zero_le _) ?_
   ·exact WK
   ·rintro z hz
    obtain rfl|rfl|rfl|rfl:z=0\/z=1\/z=2\/z=3:=by omega
    ·try simp (maxSteps:=9^9) only[go_sem]
     refine CondW_dec (fun hB=>?_) (fun hB=>absurd (by rw [hl]; decide) hB)
     try simp (maxSteps:=9^9) only[go_sem]
     repeat refine AI ?_
     refine LoopK.mk 1 ?_ (by omega) (by omega)
     exact WK
    ·try simp (maxSteps:=9^9) only[go_sem]
     refine CondW_dec (fun hB=>?_) (fun hB=>absurd (by rw [hl]; decide) hB)
     have c1:=(TouchTableI_fn (nth (t:=tTour) l 0) (nth (t:=tTour) l 1)).sh
     try simp (maxSteps:=9^9) only[go_sem]
     repeat refine AI ?_
     repeat refine AI ?_
     refine cw c1 ?_
     try simp (maxSteps:=9^9) only[go_sem]
     repeat refine AI ?_
     refine LoopK.mk 2 ?_ (by omega) (by omega)
     exact WK
    ·try simp (maxSteps:=9^9) only[go_sem]
     refine CondW_dec (fun hB=>?_) (fun hB=>absurd (by rw [hl]; decide) hB)
     have c1:=(TouchTableI_fn (nth (t:=tTour) l 0) (nth (t:=tTour) l 2)).sh
     try simp (maxSteps:=9^9) only[go_sem]
     repeat refine AI ?_
     repeat refine AI ?_
     refine cw c1 ?_
     try simp (maxSteps:=9^9) only[go_sem]
     repeat refine AI ?_
     refine LoopK.mk 3 ?_ (by omega) (by omega)
     exact WK
    ·try simp (maxSteps:=9^9) only[go_sem]
     refine CondW_dec (fun hB=>by rw [hl] at hB; exact absurd hB (by decide)) (fun hB=>?_)
     try simp (maxSteps:=9^9) only[go_sem]
     repeat refine AI ?_
     refine LoopK.mk 1 ?_ (by omega) (by omega)
     exact WK
  ·try simp (maxSteps:=9^9) only[go_sem]
   refine CondW_dec (fun hA=>?_) (fun hA=>absurd (by rw [hl]; decide) hA)
   try simp (maxSteps:=9^9) only[go_sem]
   repeat refine AI ?_
   refine LoopG.intro _ _ _ (fun z:Nat=>match z with|0=>⟨[(0,.sl tTour l),(3,.ptr 1 0),(4,.sc (.int .i64 1)),(5,.ptr 2 0),(12,.sl tTour l),(13,.sc (.int .i64 l.length)),(14,.sc (.int .i64 1)),(19,.sl tTour l),(20,.sc (.int .i64 l.length)),(21,.sc (.int .i64 0))],[(0,.ob none 0 (.map [])),(1,.box [.sl tTour l,.sl (.slice .bool) ([]),.sl (.slice .bool) (tabD (nth (t:=tTour) l 0) (nth (t:=tTour) l 1)),.sl (.slice .bool) (tabD (nth (t:=tTour) l 0) (nth (t:=tTour) l 2)),.sl (.slice .bool) ([]),.sl (.slice .bool) ([]),.sl (.slice .bool) ([]),.sl (.slice .bool) ([]),.sl (.slice .bool) ([]),.sl (.slice .bool) ([]),.row 0 0]),(2,.box (cel tTour (nth (t:=tTour) l 1)))]⟩|1=>⟨[(0,.sl tTour l),(3,.ptr 1 0),(4,.sc (.int .i64 1)),(5,.ptr 2 0),(12,.sl tTour l),(13,.sc (.int .i64 l.length)),(14,.sc (.int .i64 1)),(19,.sl tTour l),(20,.sc (.int .i64 l.length)),(21,.sc (.int .i64 1))],[(0,.ob none 0 (.map [])),(1,.box [.sl tTour l,.sl (.slice .bool) ([]),.sl (.slice .bool) (tabD (nth (t:=tTour) l 0) (nth (t:=tTour) l 1)),.sl (.slice .bool) (tabD (nth (t:=tTour) l 0) (nth (t:=tTour) l 2)),.sl (.slice .bool) (tabD (nth (t:=tTour) l 1) (nth (t:=tTour) l 0)),.sl (.slice .bool) ([]),.sl (.slice .bool) ([]),.sl (.slice .bool) ([]),.sl (.slice .bool) ([]),.sl (.slice .bool) ([]),.row 0 0]),(2,.box (cel tTour (nth (t:=tTour) l 1)))]⟩|2=>⟨[(0,.sl tTour l),(3,.ptr 1 0),(4,.sc (.int .i64 1)),(5,.ptr 2 0),(12,.sl tTour l),(13,.sc (.int .i64 l.length)),(14,.sc (.int .i64 1)),(19,.sl tTour l),(20,.sc (.int .i64 l.length)),(21,.sc (.int .i64 2))],[(0,.ob none 0 (.map [])),(1,.box [.sl tTour l,.sl (.slice .bool) ([]),.sl (.slice .bool) (tabD (nth (t:=tTour) l 0) (nth (t:=tTour) l 1)),.sl (.slice .bool) (tabD (nth (t:=tTour) l 0) (nth (t:=tTour) l 2)),.sl (.slice .bool) (tabD (nth (t:=tTour) l 1) (nth (t:=tTour) l 0)),.sl (.slice .bool) ([]),.sl (.slice .bool) ([]),.sl (.slice .bool) ([]),.sl (.slice .bool) ([]),.sl (.slice .bool) ([]),.row 0 0]),(2,.box (cel tTour (nth (t:=tTour) l 1)))]⟩|_=>⟨[(0,.sl tTour l),(3,.ptr 1 0),(4,.sc (.int .i64 1)),(5,.ptr 2 0),(12,.sl tTour l),(13,.sc (.int .i64 l.length)),(14,.sc (.int .i64 1)),(19,.sl tTour l),(20,.sc (.int .i64 l.length)),(21,.sc (.int .i64 3))],[(0,.ob none 0 (.map [])),(1,.box [.sl tTour l,.sl (.slice .bool) ([]),.sl (.slice .bool) (tabD (nth (t:=tTour) l 0) (nth (t:=tTour) l 1)),.sl (.slice .bool) (tabD (nth (t:=tTour) l 0) (nth (t:=tTour) l 2)),.sl (.slice .bool) (tabD (nth (t:=tTour) l 1) (nth (t:=tTour) l 0)),.sl (.slice .bool) ([]),.sl (.slice .bool) (tabD (nth (t:=tTour) l 1) (nth (t:=tTour) l 2)),.sl (.slice .bool) ([]),.sl (.slice .bool) ([]),.sl (.slice .bool) ([]),.row 0 0]),(2,.box (cel tTour (nth (t:=tTour) l 1)))]⟩) (fun z=>z<=3) (fun z=>3 - z) 0 ?_ (Nat.zero_le _) ?_
   ·exact WK
   ·rintro z hz
    obtain rfl|rfl|rfl|rfl:z=0\/z=1\/z=2\/z=3:=by omega
    ·try simp (maxSteps:=9^9) only[go_sem]
     refine CondW_dec (fun hB=>?_) (fun hB=>absurd (by rw [hl]; decide) hB)
     have c1:=(TouchTableI_fn (nth (t:=tTour) l 1) (nth (t:=tTour) l 0)).sh
     try simp (maxSteps:=9^9) only[go_sem]
     repeat refine AI ?_
     repeat refine AI ?_
     refine cw c1 ?_
     try simp (maxSteps:=9^9) only[go_sem]
     repeat refine AI ?_
     refine LoopK.mk 1 ?_ (by omega) (by omega)
     exact WK
    ·try simp (maxSteps:=9^9) only[go_sem]
     refine CondW_dec (fun hB=>?_) (fun hB=>absurd (by rw [hl]; decide) hB)
     try simp (maxSteps:=9^9) only[go_sem]
     repeat refine AI ?_
     refine LoopK.mk 2 ?_ (by omega) (by omega)
     exact WK
    ·try simp (maxSteps:=9^9) only[go_sem]
     refine CondW_dec (fun hB=>?_) (fun hB=>absurd (by rw [hl]; decide) hB)
     have c1:=(TouchTableI_fn (nth (t:=tTour) l 1) (nth (t:=tTour) l 2)).sh
     try simp (maxSteps:=9^9) only[go_sem]
     repeat refine AI ?_
     repeat refine AI ?_
     refine cw c1 ?_
     try simp (maxSteps:=9^9) only[go_sem]
     repeat refine AI ?_
     refine LoopK.mk 3 ?_ (by omega) (by omega)
     exact WK
    ·try simp (maxSteps:=9^9) only[go_sem]
     refine CondW_dec (fun hB=>by rw [hl] at hB; exact absurd hB (by decide)) (fun hB=>?_)
     try simp (maxSteps:=9^9) only[go_sem]
     repeat refine AI ?_
     refine LoopK.mk 2 ?_ (by omega) (by omega)
     exact WK
  ·try simp (maxSteps:=9^9) only[go_sem]
   refine CondW_dec (fun hA=>?_) (fun hA=>absurd (by rw [hl]; decide) hA)
   try simp (maxSteps:=9^9) only[go_sem]
   repeat refine AI ?_
   refine LoopG.intro _ _ _ (fun z:Nat=>match z with|0=>⟨[(0,.sl tTour l),(3,.ptr 1 0),(4,.sc (.int .i64 2)),(5,.ptr 2 0),(12,.sl tTour l),(13,.sc (.int .i64 l.length)),(14,.sc (.int .i64 2)),(19,.sl tTour l),(20,.sc (.int .i64 l.length)),(21,.sc (.int .i64 0))],[(0,.ob none 0 (.map [])),(1,.box [.sl tTour l,.sl (.slice .bool) ([]),.sl (.slice .bool) (tabD (nth (t:=tTour) l 0) (nth (t:=tTour) l 1)),.sl (.slice .bool) (tabD (nth (t:=tTour) l 0) (nth (t:=tTour) l 2)),.sl (.slice .bool) (tabD (nth (t:=tTour) l 1) (nth (t:=tTour) l 0)),.sl (.slice .bool) ([]),.sl (.slice .bool) (tabD (nth (t:=tTour) l 1) (nth (t:=tTour) l 2)),.sl (.slice .bool) ([]),.sl (.slice .bool) ([]),.sl (.slice .bool) ([]),.row 0 0]),(2,.box (cel tTour (nth (t:=tTour) l 2)))]⟩|1=>⟨[(0,.sl tTour l),(3,.ptr 1 0),(4,.sc (.int .i64 2)),(5,.ptr 2 0),(12,.sl tTour l),(13,.sc (.int .i64 l.length)),(14,.sc (.int .i64 2)),(19,.sl tTour l),(20,.sc (.int .i64 l.length)),(21,.sc (.int .i64 1))],[(0,.ob none 0 (.map [])),(1,.box [.sl tTour l,.sl (.slice .bool) ([]),.sl (.slice .bool) (tabD (nth (t:=tTour) l 0) (nth (t:=tTour) l 1)),.sl (.slice .bool) (tabD (nth (t:=tTour) l 0) (nth (t:=tTour) l 2)),.sl (.slice .bool) (tabD (nth (t:=tTour) l 1) (nth (t:=tTour) l 0)),.sl (.slice .bool) ([]),.sl (.slice .bool) (tabD (nth (t:=tTour) l 1) (nth (t:=tTour) l 2)),.sl (.slice .bool) (tabD (nth (t:=tTour) l 2) (nth (t:=tTour) l 0)),.sl (.slice .bool) ([]),.sl (.slice .bool) ([]),.row 0 0]),(2,.box (cel tTour (nth (t:=tTour) l 2)))]⟩|2=>⟨[(0,.sl tTour l),(3,.ptr 1 0),(4,.sc (.int .i64 2)),(5,.ptr 2 0),(12,.sl tTour l),(13,.sc (.int .i64 l.length)),(14,.sc (.int .i64 2)),(19,.sl tTour l),(20,.sc (.int .i64 l.length)),(21,.sc (.int .i64 2))],[(0,.ob none 0 (.map [])),(1,.box [.sl tTour l,.sl (.slice .bool) ([]),.sl (.slice .bool) (tabD (nth (t:=tTour) l 0) (nth (t:=tTour) l 1)),.sl (.slice .bool) (tabD (nth (t:=tTour) l 0) (nth (t:=tTour) l 2)),.sl (.slice .bool) (tabD (nth (t:=tTour) l 1) (nth (t:=tTour) l 0)),.sl (.slice .bool) ([]),.sl (.slice .bool) (tabD (nth (t:=tTour) l 1) (nth (t:=tTour) l 2)),.sl (.slice .bool) (tabD (nth (t:=tTour) l 2) (nth (t:=tTour) l 0)),.sl (.slice .bool) (tabD (nth (t:=tTour) l 2) (nth (t:=tTour) l 1)),.sl (.slice .bool) ([]),.row 0 0]),(2,.box (cel tTour (nth (t:=tTour) l 2)))]⟩|_=>⟨[(0,.sl tTour l),(3,.ptr 1 0),(4,.sc (.int .i64 2)),(5,.ptr 2 0),(12,.sl tTour l),(13,.sc (.int .i64 l.length)),(14,.sc (.int .i64 2)),(19,.sl tTour l),(20,.sc (.int .i64 l.length)),(21,.sc (.int .i64 3))],[(0,.ob none 0 (.map [])),(1,.box [.sl tTour l,.sl (.slice .bool) ([]),.sl (.slice .bool) (tabD (nth (t:=tTour) l 0) (nth (t:=tTour) l 1)),.sl (.slice .bool) (tabD (nth (t:=tTour) l 0) (nth (t:=tTour) l 2)),.sl (.slice .bool) (tabD (nth (t:=tTour) l 1) (nth (t:=tTour) l 0)),.sl (.slice .bool) ([]),.sl (.slice .bool) (tabD (nth (t:=tTour) l 1) (nth (t:=tTour) l 2)),.sl (.slice .bool) (tabD (nth (t:=tTour) l 2) (nth (t:=tTour) l 0)),.sl (.slice .bool) (tabD (nth (t:=tTour) l 2) (nth (t:=tTour) l 1)),.sl (.slice .bool) ([]),.row 0 0]),(2,.box (cel tTour (nth (t:=tTour) l 2)))]⟩) (fun z=>z<=3) (fun z=>3 - z) 0 ?_ (Nat.zero_le _) ?_
   ·exact WK
   ·rintro z hz
    obtain rfl|rfl|rfl|rfl:z=0\/z=1\/z=2\/z=3:=by omega
    ·try simp (maxSteps:=9^9) only[go_sem]
     refine CondW_dec (fun hB=>?_) (fun hB=>absurd (by rw [hl]; decide) hB)
     have c1:=(TouchTableI_fn (nth (t:=tTour) l 2) (nth (t:=tTour) l 0)).sh
     try simp (maxSteps:=9^9) only[go_sem]
     repeat refine AI ?_
     repeat refine AI ?_
     refine cw c1 ?_
     try simp (maxSteps:=9^9) only[go_sem]
     repeat refine AI ?_
     refine LoopK.mk 1 ?_ (by omega) (by omega)
     exact WK
    ·try simp (maxSteps:=9^9) only[go_sem]
     refine CondW_dec (fun hB=>?_) (fun hB=>absurd (by rw [hl]; decide) hB)
     have c1:=(TouchTableI_fn (nth (t:=tTour) l 2) (nth (t:=tTour) l 1)).sh
     try simp (maxSteps:=9^9) only[go_sem]
     repeat refine AI ?_
     repeat refine AI ?_
     refine cw c1 ?_
     try simp (maxSteps:=9^9) only[go_sem]
     repeat refine AI ?_
     refine LoopK.mk 2 ?_ (by omega) (by omega)
     exact WK
    ·try simp (maxSteps:=9^9) only[go_sem]
     refine CondW_dec (fun hB=>?_) (fun hB=>absurd (by rw [hl]; decide) hB)
     try simp (maxSteps:=9^9) only[go_sem]
     repeat refine AI ?_
     refine LoopK.mk 3 ?_ (by omega) (by omega)
     exact WK
    ·try simp (maxSteps:=9^9) only[go_sem]
     refine CondW_dec (fun hB=>by rw [hl] at hB; exact absurd hB (by decide)) (fun hB=>?_)
     try simp (maxSteps:=9^9) only[go_sem]
     repeat refine AI ?_
     refine LoopK.mk 3 ?_ (by omega) (by omega)
     exact WK
  ·try simp (maxSteps:=9^9) only[go_sem]
   refine CondW_dec (fun hA=>by rw [hl] at hA; exact absurd hA (by decide)) (fun hA=>?_)
   try simp (maxSteps:=9^9) only[go_sem]
   all_goals repeat refine AI ?_
   all_goals first|kernel_rfl|omega|rfl
theorem tab_len {a b:DT} (ha:tourB a=true) (hb:tourB b=true):(tabD a b).length=a.2.2.length:=by
 rw [show tabD a b=tabTo a b a.2.2.length from if_pos (by rw [ha,hb]; rfl),tabTo_len]
theorem tab_nth {a b:DT} (ha:tourB a=true) (hb:tourB b=true) {i:Int} (h0:0<=i) (h1:i < a.2.2.length):nth (t:=.slice .bool) (tabD a b) i.toNat=tabRow a b i.toNat (b.2.2.length+1):=by
 have e:tabD a b=tabTo a b a.2.2.length:=if_pos (by rw [ha,hb]; rfl)
 rw [e,nth_lt (by rw [tabTo_len]; omega)]
 unfold tabTo
 rw [List.getElem_map,List.getElem_range]
theorem tab_nlen {a b:DT} (ha:tourB a=true) (hb:tourB b=true) {i:Int} (h0:0<=i) (h1:i < a.2.2.length):(nth (t:=.slice .bool) (tabD a b) i.toNat).length=b.2.2.length+1:=by
 rw [tab_nth ha hb h0 h1,tabRow_len]
theorem tab_get {a b:DT} (ha:tourB a=true) (hb:tourB b=true) {i j:Int} (h0:0<=i) (h1:i < a.2.2.length) (h2:0<=j) (h3:j<=b.2.2.length):nth (t:=.bool) (nth (t:=.slice .bool) (tabD a b) i.toNat) j.toNat=stpTB a i b j:=by
 rw [tab_nth ha hb h0 h1,nth_lt (by rw [tabRow_len]; omega)]
 unfold tabRow
 rw [List.getElem_map,List.getElem_range,show ((i.toNat:Nat):Int)=i by omega,show ((j.toNat:Nat):Int)=j by omega]
@[go_sem] theorem plD1_l (l:List DT):(plD1 l).1=l:=(rfl)
@[go_sem] theorem plD1_00 (l:List DT):(plD1 l).2.1.1.1=[]:=(rfl)
@[go_sem] theorem plD1_01 (l:List DT):(plD1 l).2.1.1.2.1=[]:=(rfl)
@[go_sem] theorem plD1_02 (l:List DT):(plD1 l).2.1.1.2.2=[]:=(rfl)
@[go_sem] theorem plD1_10 (l:List DT):(plD1 l).2.1.2.1.1=[]:=(rfl)
@[go_sem] theorem plD1_11 (l:List DT):(plD1 l).2.1.2.1.2.1=[]:=(rfl)
@[go_sem] theorem plD1_12 (l:List DT):(plD1 l).2.1.2.1.2.2=[]:=(rfl)
@[go_sem] theorem plD1_20 (l:List DT):(plD1 l).2.1.2.2.1=[]:=(rfl)
@[go_sem] theorem plD1_21 (l:List DT):(plD1 l).2.1.2.2.2.1=[]:=(rfl)
@[go_sem] theorem plD1_22 (l:List DT):(plD1 l).2.1.2.2.2.2=[]:=(rfl)
@[go_sem] theorem plD2_l (l:List DT):(plD2 l).1=l:=(rfl)
@[go_sem] theorem plD2_00 (l:List DT):(plD2 l).2.1.1.1=[]:=(rfl)
@[go_sem] theorem plD2_01 (l:List DT):(plD2 l).2.1.1.2.1=tabD (nth (t:=tTour) l 0) (nth (t:=tTour) l 1):=(rfl)
@[go_sem] theorem plD2_02 (l:List DT):(plD2 l).2.1.1.2.2=[]:=(rfl)
@[go_sem] theorem plD2_10 (l:List DT):(plD2 l).2.1.2.1.1=tabD (nth (t:=tTour) l 1) (nth (t:=tTour) l 0):=(rfl)
@[go_sem] theorem plD2_11 (l:List DT):(plD2 l).2.1.2.1.2.1=[]:=(rfl)
@[go_sem] theorem plD2_12 (l:List DT):(plD2 l).2.1.2.1.2.2=[]:=(rfl)
@[go_sem] theorem plD2_20 (l:List DT):(plD2 l).2.1.2.2.1=[]:=(rfl)
@[go_sem] theorem plD2_21 (l:List DT):(plD2 l).2.1.2.2.2.1=[]:=(rfl)
@[go_sem] theorem plD2_22 (l:List DT):(plD2 l).2.1.2.2.2.2=[]:=(rfl)
@[go_sem] theorem plD3_l (l:List DT):(plD3 l).1=l:=(rfl)
@[go_sem] theorem plD3_00 (l:List DT):(plD3 l).2.1.1.1=[]:=(rfl)
@[go_sem] theorem plD3_01 (l:List DT):(plD3 l).2.1.1.2.1=tabD (nth (t:=tTour) l 0) (nth (t:=tTour) l 1):=(rfl)
@[go_sem] theorem plD3_02 (l:List DT):(plD3 l).2.1.1.2.2=tabD (nth (t:=tTour) l 0) (nth (t:=tTour) l 2):=(rfl)
@[go_sem] theorem plD3_10 (l:List DT):(plD3 l).2.1.2.1.1=tabD (nth (t:=tTour) l 1) (nth (t:=tTour) l 0):=(rfl)
@[go_sem] theorem plD3_11 (l:List DT):(plD3 l).2.1.2.1.2.1=[]:=(rfl)
@[go_sem] theorem plD3_12 (l:List DT):(plD3 l).2.1.2.1.2.2=tabD (nth (t:=tTour) l 1) (nth (t:=tTour) l 2):=(rfl)
@[go_sem] theorem plD3_20 (l:List DT):(plD3 l).2.1.2.2.1=tabD (nth (t:=tTour) l 2) (nth (t:=tTour) l 0):=(rfl)
@[go_sem] theorem plD3_21 (l:List DT):(plD3 l).2.1.2.2.2.1=tabD (nth (t:=tTour) l 2) (nth (t:=tTour) l 1):=(rfl)
@[go_sem] theorem plD3_22 (l:List DT):(plD3 l).2.1.2.2.2.2=[]:=(rfl)
set_option maxHeartbeats 4000000 in
theorem advance_fn10 (l:List DT) (hl:l.length=1) (st:List Int) (har:arP l) (hst:stP l st):Fn Tryz.prog 37 [⟨.ext .ref tPlanner,some (plD1 l)⟩,⟨tState,(ni st 0,(0:Int),(0:Int))⟩,⟨.int,0⟩] false [⟨tState,bif bdec (frP l st 0) then (ni st 0+1,(0:Int),(0:Int)) else (ni st 0,(0:Int),(0:Int))⟩,⟨.bool,bdec (frP l st 0)⟩]:=by
 have hr0:=(har 0 (by rw [hl]; decide)).1
 have v0:=hst.2 0 (by rw [hst.1,hl]; decide)
 unfold stAt at v0
 have hs8:=(tour_parts hr0).2.2.2.1
 by_cases h0:ni st 0=(nth (t:=tTour) l 0).2.2.length
 ·have d0:=decide_eq_true h0
  rw [bdec_f fun h=>h.1 h0,cond_false]
  refine fe Tryz.func37 Tryz.ntmps37 Tryz.results37 fun hwf=>?_
  try simp (maxSteps:=9^9) only[go_sem]
  repeat refine AI ?_
  try simp (maxSteps:=9^9) only[go_sem,d0]
  all_goals repeat refine AI ?_
  all_goals first|kernel_rfl|omega|rfl
 ·have d0:=decide_eq_false h0
  refine fe Tryz.func37 Tryz.ntmps37 Tryz.results37 fun hwf=>?_
  try simp (maxSteps:=9^9) only[go_sem]
  repeat refine AI ?_
  try simp (maxSteps:=9^9) only[go_sem,d0]
  repeat refine AI ?_
  refine LoopG.intro _ _ _ (fun y:Nat=>match y with|0=>⟨[(0,.ref tPlanner (plD1 l) 0),(2,.sc (.int .i64 0)),(4,.ptr 0 0),(6,.ptr 1 0),(7,.sc (.bool false)),(27,.sc (.int .i64 l.length)),(28,.sc (.int .i64 0))],[(0,.box [.sc (.int .i64 (ni st 0)),.sc (.int .i64 0),.sc (.int .i64 0)]),(1,.box [.sc (.int .i64 0),.sc (.int .i64 0),.sc (.int .i64 0)])]⟩|_=>⟨[(0,.ref tPlanner (plD1 l) 0),(2,.sc (.int .i64 0)),(4,.ptr 0 0),(6,.ptr 1 0),(7,.sc (.bool false)),(27,.sc (.int .i64 l.length)),(28,.sc (.int .i64 1))],[(0,.box [.sc (.int .i64 (ni st 0)),.sc (.int .i64 0),.sc (.int .i64 0)]),(1,.box [.sc (.int .i64 0),.sc (.int .i64 0),.sc (.int .i64 0)])]⟩) (fun y=>y<=1/\∀ i,i < y->frAt l st 0 i) (fun y=>1 - y) 0 ?_ ⟨Nat.zero_le _,fun i h=>absurd h (Nat.not_lt_zero _)⟩ ?_
  ·exact WK
  ·rintro y ⟨hy,hall⟩
   obtain rfl|rfl:y=0\/y=1:=by omega
   ·try simp (maxSteps:=9^9) only[go_sem]
    refine CondW_dec (fun hA=>?_) (fun hA=>absurd (by rw [hl]; decide) hA)
    try simp (maxSteps:=9^9) only[go_sem]
    repeat refine AI ?_
    refine LoopK.mk 1 ?_ ⟨by omega,fun i hi=>?_⟩ (by omega)
    ·exact WK
    ·by_cases h:i < 0
     ·exact hall i h
     ·intro hne; omega
   ·try simp (maxSteps:=9^9) only[go_sem]
    refine CondW_dec (fun hA=>by rw [hl] at hA; exact absurd hA (by decide)) (fun hA=>?_)
    rw [bdec_t ⟨h0,fun j hj=>hall j (by omega)⟩,cond_true]
    try simp (maxSteps:=9^9) only[go_sem]
    repeat refine AI ?_
    try simp (maxSteps:=9^9) only[go_sem]
    all_goals repeat refine AI ?_
    all_goals first|kernel_rfl|omega|rfl
set_option maxHeartbeats 4000000 in
theorem advance_fn20 (l:List DT) (hl:l.length=2) (st:List Int) (har:arP l) (hst:stP l st):Fn Tryz.prog 37 [⟨.ext .ref tPlanner,some (plD2 l)⟩,⟨tState,(ni st 0,ni st 1,(0:Int))⟩,⟨.int,0⟩] false [⟨tState,bif bdec (frP l st 0) then (ni st 0+1,ni st 1,(0:Int)) else (ni st 0,ni st 1,(0:Int))⟩,⟨.bool,bdec (frP l st 0)⟩]:=by
 have hr0:=(har 0 (by rw [hl]; decide)).1
 have v0:=hst.2 0 (by rw [hst.1,hl]; decide)
 unfold stAt at v0
 have v1:=hst.2 1 (by rw [hst.1,hl]; decide)
 unfold stAt at v1
 have hr1:=(har 1 (by rw [hl]; decide)).1
 have hs8:=(tour_parts hr0).2.2.2.1
 by_cases h0:ni st 0=(nth (t:=tTour) l 0).2.2.length
 ·have d0:=decide_eq_true h0
  rw [bdec_f fun h=>h.1 h0,cond_false]
  refine fe Tryz.func37 Tryz.ntmps37 Tryz.results37 fun hwf=>?_
  try simp (maxSteps:=9^9) only[go_sem]
  repeat refine AI ?_
  try simp (maxSteps:=9^9) only[go_sem,d0]
  all_goals repeat refine AI ?_
  all_goals first|kernel_rfl|omega|rfl
 ·have d0:=decide_eq_false h0
  have ta1:=tab_len hr0 hr1
  have tb1:=tab_nlen hr0 hr1 v0.1 (by omega)
  have tc1:=tab_get hr0 hr1 v0.1 (by omega) v1.1 v1.2
  refine fe Tryz.func37 Tryz.ntmps37 Tryz.results37 fun hwf=>?_
  try simp (maxSteps:=9^9) only[go_sem]
  repeat refine AI ?_
  try simp (maxSteps:=9^9) only[go_sem,d0]
  repeat refine AI ?_
  refine LoopG.intro _ _ _ (fun y:Nat=>match y with|0=>⟨[(0,.ref tPlanner (plD2 l) 0),(2,.sc (.int .i64 0)),(4,.ptr 0 0),(6,.ptr 1 0),(7,.sc (.bool false)),(27,.sc (.int .i64 l.length)),(28,.sc (.int .i64 0))],[(0,.box [.sc (.int .i64 (ni st 0)),.sc (.int .i64 (ni st 1)),.sc (.int .i64 0)]),(1,.box [.sc (.int .i64 0),.sc (.int .i64 0),.sc (.int .i64 0)])]⟩|1=>⟨[(0,.ref tPlanner (plD2 l) 0),(2,.sc (.int .i64 0)),(4,.ptr 0 0),(6,.ptr 1 0),(7,.sc (.bool false)),(27,.sc (.int .i64 l.length)),(28,.sc (.int .i64 1))],[(0,.box [.sc (.int .i64 (ni st 0)),.sc (.int .i64 (ni st 1)),.sc (.int .i64 0)]),(1,.box [.sc (.int .i64 0),.sc (.int .i64 0),.sc (.int .i64 0)])]⟩|_=>⟨[(0,.ref tPlanner (plD2 l) 0),(2,.sc (.int .i64 0)),(4,.ptr 0 0),(6,.ptr 1 0),(7,.sc (.bool false)),(27,.sc (.int .i64 l.length)),(28,.sc (.int .i64 2))],[(0,.box [.sc (.int .i64 (ni st 0)),.sc (.int .i64 (ni st 1)),.sc (.int .i64 0)]),(1,.box [.sc (.int .i64 0),.sc (.int .i64 0),.sc (.int .i64 0)])]⟩) (fun y=>y<=2/\∀ i,i < y->frAt l st 0 i) (fun y=>2 - y) 0 ?_ ⟨Nat.zero_le _,fun i h=>absurd h (Nat.not_lt_zero _)⟩ ?_
  ·exact WK
  ·rintro y ⟨hy,hall⟩
   obtain rfl|rfl|rfl:y=0\/y=1\/y=2:=by omega
   ·try simp (maxSteps:=9^9) only[go_sem]
    refine CondW_dec (fun hA=>?_) (fun hA=>absurd (by rw [hl]; decide) hA)
    try simp (maxSteps:=9^9) only[go_sem]
    repeat refine AI ?_
    refine LoopK.mk 1 ?_ ⟨by omega,fun i hi=>?_⟩ (by omega)
    ·exact WK
    ·by_cases h:i < 0
     ·exact hall i h
     ·intro hne; omega
   ·try simp (maxSteps:=9^9) only[go_sem]
    refine CondW_dec (fun hA=>?_) (fun hA=>absurd (by rw [hl]; decide) hA)
    cases hs:stpTB (nth (t:=tTour) l 0) (ni st 0) (nth (t:=tTour) l 1) (ni st 1)<;>rw [hs] at tc1
    ·try simp (maxSteps:=9^9) only[go_sem,ta1,tb1]
     repeat refine AI ?_
     try simp (maxSteps:=9^9) only[go_sem,ta1,tb1,tc1]
     repeat refine AI ?_
     refine LoopK.mk 2 ?_ ⟨by omega,fun i hi=>?_⟩ (by omega)
     ·exact WK
     ·by_cases h:i < 1
      ·exact hall i h
      ·rw [show i=1 by omega]; exact fun _=>hs
    ·rw [bdec_f (fun h=>by have:=h.2 1 (by rw [hl]; decide) (by decide); rw [hs] at this; cases this),cond_false]
     try simp (maxSteps:=9^9) only[go_sem,ta1,tb1]
     repeat refine AI ?_
     try simp (maxSteps:=9^9) only[go_sem,ta1,tb1,tc1]
     all_goals repeat refine AI ?_
     all_goals first|kernel_rfl|omega|rfl
   ·try simp (maxSteps:=9^9) only[go_sem]
    refine CondW_dec (fun hA=>by rw [hl] at hA; exact absurd hA (by decide)) (fun hA=>?_)
    rw [bdec_t ⟨h0,fun j hj=>hall j (by omega)⟩,cond_true]
    try simp (maxSteps:=9^9) only[go_sem]
    repeat refine AI ?_
    try simp (maxSteps:=9^9) only[go_sem]
    all_goals repeat refine AI ?_
    all_goals first|kernel_rfl|omega|rfl
set_option maxHeartbeats 4000000 in
theorem advance_fn21 (l:List DT) (hl:l.length=2) (st:List Int) (har:arP l) (hst:stP l st):Fn Tryz.prog 37 [⟨.ext .ref tPlanner,some (plD2 l)⟩,⟨tState,(ni st 0,ni st 1,(0:Int))⟩,⟨.int,1⟩] false [⟨tState,bif bdec (frP l st 1) then (ni st 0,ni st 1+1,(0:Int)) else (ni st 0,ni st 1,(0:Int))⟩,⟨.bool,bdec (frP l st 1)⟩]:=by
 have hr1:=(har 1 (by rw [hl]; decide)).1
 have v0:=hst.2 0 (by rw [hst.1,hl]; decide)
 unfold stAt at v0
 have hr0:=(har 0 (by rw [hl]; decide)).1
 have v1:=hst.2 1 (by rw [hst.1,hl]; decide)
 unfold stAt at v1
 have hs8:=(tour_parts hr1).2.2.2.1
 by_cases h0:ni st 1=(nth (t:=tTour) l 1).2.2.length
 ·have d0:=decide_eq_true h0
  rw [bdec_f fun h=>h.1 h0,cond_false]
  refine fe Tryz.func37 Tryz.ntmps37 Tryz.results37 fun hwf=>?_
  try simp (maxSteps:=9^9) only[go_sem]
  repeat refine AI ?_
  try simp (maxSteps:=9^9) only[go_sem,d0]
  all_goals repeat refine AI ?_
  all_goals first|kernel_rfl|omega|rfl
 ·have d0:=decide_eq_false h0
  have ta0:=tab_len hr1 hr0
  have tb0:=tab_nlen hr1 hr0 v1.1 (by omega)
  have tc0:=tab_get hr1 hr0 v1.1 (by omega) v0.1 v0.2
  refine fe Tryz.func37 Tryz.ntmps37 Tryz.results37 fun hwf=>?_
  try simp (maxSteps:=9^9) only[go_sem]
  repeat refine AI ?_
  try simp (maxSteps:=9^9) only[go_sem,d0]
  repeat refine AI ?_
  refine LoopG.intro _ _ _ (fun y:Nat=>match y with|0=>⟨[(0,.ref tPlanner (plD2 l) 0),(2,.sc (.int .i64 1)),(4,.ptr 0 0),(6,.ptr 1 0),(7,.sc (.bool false)),(27,.sc (.int .i64 l.length)),(28,.sc (.int .i64 0))],[(0,.box [.sc (.int .i64 (ni st 0)),.sc (.int .i64 (ni st 1)),.sc (.int .i64 0)]),(1,.box [.sc (.int .i64 0),.sc (.int .i64 0),.sc (.int .i64 0)])]⟩|1=>⟨[(0,.ref tPlanner (plD2 l) 0),(2,.sc (.int .i64 1)),(4,.ptr 0 0),(6,.ptr 1 0),(7,.sc (.bool false)),(27,.sc (.int .i64 l.length)),(28,.sc (.int .i64 1))],[(0,.box [.sc (.int .i64 (ni st 0)),.sc (.int .i64 (ni st 1)),.sc (.int .i64 0)]),(1,.box [.sc (.int .i64 0),.sc (.int .i64 0),.sc (.int .i64 0)])]⟩|_=>⟨[(0,.ref tPlanner (plD2 l) 0),(2,.sc (.int .i64 1)),(4,.ptr 0 0),(6,.ptr 1 0),(7,.sc (.bool false)),(27,.sc (.int .i64 l.length)),(28,.sc (.int .i64 2))],[(0,.box [.sc (.int .i64 (ni st 0)),.sc (.int .i64 (ni st 1)),.sc (.int .i64 0)]),(1,.box [.sc (.int .i64 0),.sc (.int .i64 0),.sc (.int .i64 0)])]⟩) (fun y=>y<=2/\∀ i,i < y->frAt l st 1 i) (fun y=>2 - y) 0 ?_ ⟨Nat.zero_le _,fun i h=>absurd h (Nat.not_lt_zero _)⟩ ?_
  ·exact WK
  ·rintro y ⟨hy,hall⟩
   obtain rfl|rfl|rfl:y=0\/y=1\/y=2:=by omega
   ·try simp (maxSteps:=9^9) only[go_sem]
    refine CondW_dec (fun hA=>?_) (fun hA=>absurd (by rw [hl]; decide) hA)
    cases hs:stpTB (nth (t:=tTour) l 1) (ni st 1) (nth (t:=tTour) l 0) (ni st 0)<;>rw [hs] at tc0
    ·try simp (maxSteps:=9^9) only[go_sem,ta0,tb0]
     repeat refine AI ?_
     try simp (maxSteps:=9^9) only[go_sem,ta0,tb0,tc0]
     repeat refine AI ?_
     refine LoopK.mk 1 ?_ ⟨by omega,fun i hi=>?_⟩ (by omega)
     ·exact WK
     ·by_cases h:i < 0
      ·exact hall i h
      ·rw [show i=0 by omega]; exact fun _=>hs
    ·rw [bdec_f (fun h=>by have:=h.2 0 (by rw [hl]; decide) (by decide); rw [hs] at this; cases this),cond_false]
     try simp (maxSteps:=9^9) only[go_sem,ta0,tb0]
     repeat refine AI ?_
     try simp (maxSteps:=9^9) only[go_sem,ta0,tb0,tc0]
     all_goals repeat refine AI ?_
     all_goals first|kernel_rfl|omega|rfl
   ·try simp (maxSteps:=9^9) only[go_sem]
    refine CondW_dec (fun hA=>?_) (fun hA=>absurd (by rw [hl]; decide) hA)
    try simp (maxSteps:=9^9) only[go_sem]
    repeat refine AI ?_
    refine LoopK.mk 2 ?_ ⟨by omega,fun i hi=>?_⟩ (by omega)
    ·exact WK
    ·by_cases h:i < 1
     ·exact hall i h
     ·intro hne; omega
   ·try simp (maxSteps:=9^9) only[go_sem]
    refine CondW_dec (fun hA=>by rw [hl] at hA; exact absurd hA (by decide)) (fun hA=>?_)
    rw [bdec_t ⟨h0,fun j hj=>hall j (by omega)⟩,cond_true]
    try simp (maxSteps:=9^9) only[go_sem]
    repeat refine AI ?_
    try simp (maxSteps:=9^9) only[go_sem]
    all_goals repeat refine AI ?_
    all_goals first|kernel_rfl|omega|rfl
set_option maxHeartbeats 4000000 in
theorem advance_fn30 (l:List DT) (hl:l.length=3) (st:List Int) (har:arP l) (hst:stP l st):Fn Tryz.prog 37 [⟨.ext .ref tPlanner,some (plD3 l)⟩,⟨tState,(ni st 0,ni st 1,ni st 2)⟩,⟨.int,0⟩] false [⟨tState,bif bdec (frP l st 0) then (ni st 0+1,ni st 1,ni st 2) else (ni st 0,ni st 1,ni st 2)⟩,⟨.bool,bdec (frP l st 0)⟩]:=by
 have hr0:=(har 0 (by rw [hl]; decide)).1
 have v0:=hst.2 0 (by rw [hst.1,hl]; decide)
 unfold stAt at v0
 have v1:=hst.2 1 (by rw [hst.1,hl]; decide)
 unfold stAt at v1
 have hr1:=(har 1 (by rw [hl]; decide)).1
 have v2:=hst.2 2 (by rw [hst.1,hl]; decide)
 unfold stAt at v2
 have hr2:=(har 2 (by rw [hl]; decide)).1
 have hs8:=(tour_parts hr0).2.2.2.1
 by_cases h0:ni st 0=(nth (t:=tTour) l 0).2.2.length
 ·have d0:=decide_eq_true h0
  rw [bdec_f fun h=>h.1 h0,cond_false]
  refine fe Tryz.func37 Tryz.ntmps37 Tryz.results37 fun hwf=>?_
  try simp (maxSteps:=9^9) only[go_sem]
  repeat refine AI ?_
  try simp (maxSteps:=9^9) only[go_sem,d0]
  all_goals repeat refine AI ?_
  all_goals first|kernel_rfl|omega|rfl
 ·have d0:=decide_eq_false h0
  have ta1:=tab_len hr0 hr1
  have tb1:=tab_nlen hr0 hr1 v0.1 (by omega)
  have tc1:=tab_get hr0 hr1 v0.1 (by omega) v1.1 v1.2
  have ta2:=tab_len hr0 hr2
  have tb2:=tab_nlen hr0 hr2 v0.1 (by omega)
  have tc2:=tab_get hr0 hr2 v0.1 (by omega) v2.1 v2.2
  refine fe Tryz.func37 Tryz.ntmps37 Tryz.results37 fun hwf=>?_
  try simp (maxSteps:=9^9) only[go_sem]
  repeat refine AI ?_
  try simp (maxSteps:=9^9) only[go_sem,d0]
  repeat refine AI ?_
  refine LoopG.intro _ _ _ (fun y:Nat=>match y with|0=>⟨[(0,.ref tPlanner (plD3 l) 0),(2,.sc (.int .i64 0)),(4,.ptr 0 0),(6,.ptr 1 0),(7,.sc (.bool false)),(27,.sc (.int .i64 l.length)),(28,.sc (.int .i64 0))],[(0,.box [.sc (.int .i64 (ni st 0)),.sc (.int .i64 (ni st 1)),.sc (.int .i64 (ni st 2))]),(1,.box [.sc (.int .i64 0),.sc (.int .i64 0),.sc (.int .i64 0)])]⟩|1=>⟨[(0,.ref tPlanner (plD3 l) 0),(2,.sc (.int .i64 0)),(4,.ptr 0 0),(6,.ptr 1 0),(7,.sc (.bool false)),(27,.sc (.int .i64 l.length)),(28,.sc (.int .i64 1))],[(0,.box [.sc (.int .i64 (ni st 0)),.sc (.int .i64 (ni st 1)),.sc (.int .i64 (ni st 2))]),(1,.box [.sc (.int .i64 0),.sc (.int .i64 0),.sc (.int .i64 0)])]⟩|2=>⟨[(0,.ref tPlanner (plD3 l) 0),(2,.sc (.int .i64 0)),(4,.ptr 0 0),(6,.ptr 1 0),(7,.sc (.bool false)),(27,.sc (.int .i64 l.length)),(28,.sc (.int .i64 2))],[(0,.box [.sc (.int .i64 (ni st 0)),.sc (.int .i64 (ni st 1)),.sc (.int .i64 (ni st 2))]),(1,.box [.sc (.int .i64 0),.sc (.int .i64 0),.sc (.int .i64 0)])]⟩|_=>⟨[(0,.ref tPlanner (plD3 l) 0),(2,.sc (.int .i64 0)),(4,.ptr 0 0),(6,.ptr 1 0),(7,.sc (.bool false)),(27,.sc (.int .i64 l.length)),(28,.sc (.int .i64 3))],[(0,.box [.sc (.int .i64 (ni st 0)),.sc (.int .i64 (ni st 1)),.sc (.int .i64 (ni st 2))]),(1,.box [.sc (.int .i64 0),.sc (.int .i64 0),.sc (.int .i64 0)])]⟩) (fun y=>y<=3/\∀ i,i < y->frAt l st 0 i) (fun y=>3 - y) 0 ?_ ⟨Nat.zero_le _,fun i h=>absurd h (Nat.not_lt_zero _)⟩ ?_
  ·exact WK
  ·rintro y ⟨hy,hall⟩
   obtain rfl|rfl|rfl|rfl:y=0\/y=1\/y=2\/y=3:=by omega
   ·try simp (maxSteps:=9^9) only[go_sem]
    refine CondW_dec (fun hA=>?_) (fun hA=>absurd (by rw [hl]; decide) hA)
    try simp (maxSteps:=9^9) only[go_sem]
    repeat refine AI ?_
    refine LoopK.mk 1 ?_ ⟨by omega,fun i hi=>?_⟩ (by omega)
    ·exact WK
    ·by_cases h:i < 0
     ·exact hall i h
     ·intro hne; omega
   ·try simp (maxSteps:=9^9) only[go_sem]
    refine CondW_dec (fun hA=>?_) (fun hA=>absurd (by rw [hl]; decide) hA)
    cases hs:stpTB (nth (t:=tTour) l 0) (ni st 0) (nth (t:=tTour) l 1) (ni st 1)<;>rw [hs] at tc1
    ·try simp (maxSteps:=9^9) only[go_sem,ta1,tb1]
     repeat refine AI ?_
     try simp (maxSteps:=9^9) only[go_sem,ta1,tb1,tc1]
     repeat refine AI ?_
     refine LoopK.mk 2 ?_ ⟨by omega,fun i hi=>?_⟩ (by omega)
     ·exact WK
     ·by_cases h:i < 1
      ·exact hall i h
      ·rw [show i=1 by omega]; exact fun _=>hs
    ·rw [bdec_f (fun h=>by have:=h.2 1 (by rw [hl]; decide) (by decide); rw [hs] at this; cases this),cond_false]
     try simp (maxSteps:=9^9) only[go_sem,ta1,tb1]
     repeat refine AI ?_
     try simp (maxSteps:=9^9) only[go_sem,ta1,tb1,tc1]
     all_goals repeat refine AI ?_
     all_goals first|kernel_rfl|omega|rfl
   ·try simp (maxSteps:=9^9) only[go_sem]
    refine CondW_dec (fun hA=>?_) (fun hA=>absurd (by rw [hl]; decide) hA)
    cases hs:stpTB (nth (t:=tTour) l 0) (ni st 0) (nth (t:=tTour) l 2) (ni st 2)<;>rw [hs] at tc2
    ·try simp (maxSteps:=9^9) only[go_sem,ta2,tb2]
     repeat refine AI ?_
     try simp (maxSteps:=9^9) only[go_sem,ta2,tb2,tc2]
     repeat refine AI ?_
     refine LoopK.mk 3 ?_ ⟨by omega,fun i hi=>?_⟩ (by omega)
     ·exact WK
     ·by_cases h:i < 2
      ·exact hall i h
      ·rw [show i=2 by omega]; exact fun _=>hs
    ·rw [bdec_f (fun h=>by have:=h.2 2 (by rw [hl]; decide) (by decide); rw [hs] at this; cases this),cond_false]
     try simp (maxSteps:=9^9) only[go_sem,ta2,tb2]
     repeat refine AI ?_
     try simp (maxSteps:=9^9) only[go_sem,ta2,tb2,tc2]
     all_goals repeat refine AI ?_
     all_goals first|kernel_rfl|omega|rfl
   ·try simp (maxSteps:=9^9) only[go_sem]
    refine CondW_dec (fun hA=>by rw [hl] at hA; exact absurd hA (by decide)) (fun hA=>?_)
    rw [bdec_t ⟨h0,fun j hj=>hall j (by omega)⟩,cond_true]
    try simp (maxSteps:=9^9) only[go_sem]
    repeat refine AI ?_
    try simp (maxSteps:=9^9) only[go_sem]
    all_goals repeat refine AI ?_
    all_goals first|kernel_rfl|omega|rfl
set_option maxHeartbeats 4000000 in
theorem advance_fn31 (l:List DT) (hl:l.length=3) (st:List Int) (har:arP l) (hst:stP l st):Fn Tryz.prog 37 [⟨.ext .ref tPlanner,some (plD3 l)⟩,⟨tState,(ni st 0,ni st 1,ni st 2)⟩,⟨.int,1⟩] false [⟨tState,bif bdec (frP l st 1) then (ni st 0,ni st 1+1,ni st 2) else (ni st 0,ni st 1,ni st 2)⟩,⟨.bool,bdec (frP l st 1)⟩]:=by
 have hr1:=(har 1 (by rw [hl]; decide)).1
 have v0:=hst.2 0 (by rw [hst.1,hl]; decide)
 unfold stAt at v0
 have hr0:=(har 0 (by rw [hl]; decide)).1
 have v1:=hst.2 1 (by rw [hst.1,hl]; decide)
 unfold stAt at v1
 have v2:=hst.2 2 (by rw [hst.1,hl]; decide)
 unfold stAt at v2
 have hr2:=(har 2 (by rw [hl]; decide)).1
 have hs8:=(tour_parts hr1).2.2.2.1
 by_cases h0:ni st 1=(nth (t:=tTour) l 1).2.2.length
 ·have d0:=decide_eq_true h0
  rw [bdec_f fun h=>h.1 h0,cond_false]
  refine fe Tryz.func37 Tryz.ntmps37 Tryz.results37 fun hwf=>?_
  try simp (maxSteps:=9^9) only[go_sem]
  repeat refine AI ?_
  try simp (maxSteps:=9^9) only[go_sem,d0]
  all_goals repeat refine AI ?_
  all_goals first|kernel_rfl|omega|rfl
 ·have d0:=decide_eq_false h0
  have ta0:=tab_len hr1 hr0
  have tb0:=tab_nlen hr1 hr0 v1.1 (by omega)
  have tc0:=tab_get hr1 hr0 v1.1 (by omega) v0.1 v0.2
  have ta2:=tab_len hr1 hr2
  have tb2:=tab_nlen hr1 hr2 v1.1 (by omega)
  have tc2:=tab_get hr1 hr2 v1.1 (by omega) v2.1 v2.2
  refine fe Tryz.func37 Tryz.ntmps37 Tryz.results37 fun hwf=>?_
  try simp (maxSteps:=9^9) only[go_sem]
  repeat refine AI ?_
  try simp (maxSteps:=9^9) only[go_sem,d0]
  repeat refine AI ?_
  refine LoopG.intro _ _ _ (fun y:Nat=>match y with|0=>⟨[(0,.ref tPlanner (plD3 l) 0),(2,.sc (.int .i64 1)),(4,.ptr 0 0),(6,.ptr 1 0),(7,.sc (.bool false)),(27,.sc (.int .i64 l.length)),(28,.sc (.int .i64 0))],[(0,.box [.sc (.int .i64 (ni st 0)),.sc (.int .i64 (ni st 1)),.sc (.int .i64 (ni st 2))]),(1,.box [.sc (.int .i64 0),.sc (.int .i64 0),.sc (.int .i64 0)])]⟩|1=>⟨[(0,.ref tPlanner (plD3 l) 0),(2,.sc (.int .i64 1)),(4,.ptr 0 0),(6,.ptr 1 0),(7,.sc (.bool false)),(27,.sc (.int .i64 l.length)),(28,.sc (.int .i64 1))],[(0,.box [.sc (.int .i64 (ni st 0)),.sc (.int .i64 (ni st 1)),.sc (.int .i64 (ni st 2))]),(1,.box [.sc (.int .i64 0),.sc (.int .i64 0),.sc (.int .i64 0)])]⟩|2=>⟨[(0,.ref tPlanner (plD3 l) 0),(2,.sc (.int .i64 1)),(4,.ptr 0 0),(6,.ptr 1 0),(7,.sc (.bool false)),(27,.sc (.int .i64 l.length)),(28,.sc (.int .i64 2))],[(0,.box [.sc (.int .i64 (ni st 0)),.sc (.int .i64 (ni st 1)),.sc (.int .i64 (ni st 2))]),(1,.box [.sc (.int .i64 0),.sc (.int .i64 0),.sc (.int .i64 0)])]⟩|_=>⟨[(0,.ref tPlanner (plD3 l) 0),(2,.sc (.int .i64 1)),(4,.ptr 0 0),(6,.ptr 1 0),(7,.sc (.bool false)),(27,.sc (.int .i64 l.length)),(28,.sc (.int .i64 3))],[(0,.box [.sc (.int .i64 (ni st 0)),.sc (.int .i64 (ni st 1)),.sc (.int .i64 (ni st 2))]),(1,.box [.sc (.int .i64 0),.sc (.int .i64 0),.sc (.int .i64 0)])]⟩) (fun y=>y<=3/\∀ i,i < y->frAt l st 1 i) (fun y=>3 - y) 0 ?_ ⟨Nat.zero_le _,fun i h=>absurd h (Nat.not_lt_zero _)⟩ ?_
  ·exact WK
  ·rintro y ⟨hy,hall⟩
   obtain rfl|rfl|rfl|rfl:y=0\/y=1\/y=2\/y=3:=by omega
   ·try simp (maxSteps:=9^9) only[go_sem]
    refine CondW_dec (fun hA=>?_) (fun hA=>absurd (by rw [hl]; decide) hA)
    cases hs:stpTB (nth (t:=tTour) l 1) (ni st 1) (nth (t:=tTour) l 0) (ni st 0)<;>rw [hs] at tc0
    ·try simp (maxSteps:=9^9) only[go_sem,ta0,tb0]
     repeat refine AI ?_
     try simp (maxSteps:=9^9) only[go_sem,ta0,tb0,tc0]
     repeat refine AI ?_
     refine LoopK.mk 1 ?_ ⟨by omega,fun i hi=>?_⟩ (by omega)
     ·exact WK
     ·by_cases h:i < 0
      ·exact hall i h
      ·rw [show i=0 by omega]; exact fun _=>hs
    ·rw [bdec_f (fun h=>by have:=h.2 0 (by rw [hl]; decide) (by decide); rw [hs] at this; cases this),cond_false]
     try simp (maxSteps:=9^9) only[go_sem,ta0,tb0]
     repeat refine AI ?_
     try simp (maxSteps:=9^9) only[go_sem,ta0,tb0,tc0]
     all_goals repeat refine AI ?_
     all_goals first|kernel_rfl|omega|rfl
   ·try simp (maxSteps:=9^9) only[go_sem]
    refine CondW_dec (fun hA=>?_) (fun hA=>absurd (by rw [hl]; decide) hA)
    try simp (maxSteps:=9^9) only[go_sem]
    repeat refine AI ?_
    refine LoopK.mk 2 ?_ ⟨by omega,fun i hi=>?_⟩ (by omega)
    ·exact WK
    ·by_cases h:i < 1
     ·exact hall i h
     ·intro hne; omega
   ·try simp (maxSteps:=9^9) only[go_sem]
    refine CondW_dec (fun hA=>?_) (fun hA=>absurd (by rw [hl]; decide) hA)
    cases hs:stpTB (nth (t:=tTour) l 1) (ni st 1) (nth (t:=tTour) l 2) (ni st 2)<;>rw [hs] at tc2
    ·try simp (maxSteps:=9^9) only[go_sem,ta2,tb2]
     repeat refine AI ?_
     try simp (maxSteps:=9^9) only[go_sem,ta2,tb2,tc2]
     repeat refine AI ?_
     refine LoopK.mk 3 ?_ ⟨by omega,fun i hi=>?_⟩ (by omega)
     ·exact WK
     ·by_cases h:i < 2
      ·exact hall i h
      ·rw [show i=2 by omega]; exact fun _=>hs
    ·rw [bdec_f (fun h=>by have:=h.2 2 (by rw [hl]; decide) (by decide); rw [hs] at this; cases this),cond_false]
     try simp (maxSteps:=9^9) only[go_sem,ta2,tb2]
     repeat refine AI ?_
     try simp (maxSteps:=9^9) only[go_sem,ta2,tb2,tc2]
     all_goals repeat refine AI ?_
     all_goals first|kernel_rfl|omega|rfl
   ·try simp (maxSteps:=9^9) only[go_sem]
    refine CondW_dec (fun hA=>by rw [hl] at hA; exact absurd hA (by decide)) (fun hA=>?_)
    rw [bdec_t ⟨h0,fun j hj=>hall j (by omega)⟩,cond_true]
    try simp (maxSteps:=9^9) only[go_sem]
    repeat refine AI ?_
    try simp (maxSteps:=9^9) only[go_sem]
    all_goals repeat refine AI ?_
    all_goals first|kernel_rfl|omega|rfl
set_option maxHeartbeats 4000000 in
theorem advance_fn32 (l:List DT) (hl:l.length=3) (st:List Int) (har:arP l) (hst:stP l st):Fn Tryz.prog 37 [⟨.ext .ref tPlanner,some (plD3 l)⟩,⟨tState,(ni st 0,ni st 1,ni st 2)⟩,⟨.int,2⟩] false [⟨tState,bif bdec (frP l st 2) then (ni st 0,ni st 1,ni st 2+1) else (ni st 0,ni st 1,ni st 2)⟩,⟨.bool,bdec (frP l st 2)⟩]:=by
 have hr2:=(har 2 (by rw [hl]; decide)).1
 have v0:=hst.2 0 (by rw [hst.1,hl]; decide)
 unfold stAt at v0
 have hr0:=(har 0 (by rw [hl]; decide)).1
 have v1:=hst.2 1 (by rw [hst.1,hl]; decide)
 unfold stAt at v1
 have hr1:=(har 1 (by rw [hl]; decide)).1
 have v2:=hst.2 2 (by rw [hst.1,hl]; decide)
 unfold stAt at v2
 have hs8:=(tour_parts hr2).2.2.2.1
 by_cases h0:ni st 2=(nth (t:=tTour) l 2).2.2.length
 ·have d0:=decide_eq_true h0
  rw [bdec_f fun h=>h.1 h0,cond_false]
  refine fe Tryz.func37 Tryz.ntmps37 Tryz.results37 fun hwf=>?_
  try simp (maxSteps:=9^9) only[go_sem]
  repeat refine AI ?_
  try simp (maxSteps:=9^9) only[go_sem,d0]
  all_goals repeat refine AI ?_
  all_goals first|kernel_rfl|omega|rfl
 ·have d0:=decide_eq_false h0
  have ta0:=tab_len hr2 hr0
  have tb0:=tab_nlen hr2 hr0 v2.1 (by omega)
  have tc0:=tab_get hr2 hr0 v2.1 (by omega) v0.1 v0.2
  have ta1:=tab_len hr2 hr1
  have tb1:=tab_nlen hr2 hr1 v2.1 (by omega)
  have tc1:=tab_get hr2 hr1 v2.1 (by omega) v1.1 v1.2
  refine fe Tryz.func37 Tryz.ntmps37 Tryz.results37 fun hwf=>?_
  try simp (maxSteps:=9^9) only[go_sem]
  repeat refine AI ?_
  try simp (maxSteps:=9^9) only[go_sem,d0]
  repeat refine AI ?_
  refine LoopG.intro _ _ _ (fun y:Nat=>match y with|0=>⟨[(0,.ref tPlanner (plD3 l) 0),(2,.sc (.int .i64 2)),(4,.ptr 0 0),(6,.ptr 1 0),(7,.sc (.bool false)),(27,.sc (.int .i64 l.length)),(28,.sc (.int .i64 0))],[(0,.box [.sc (.int .i64 (ni st 0)),.sc (.int .i64 (ni st 1)),.sc (.int .i64 (ni st 2))]),(1,.box [.sc (.int .i64 0),.sc (.int .i64 0),.sc (.int .i64 0)])]⟩|1=>⟨[(0,.ref tPlanner (plD3 l) 0),(2,.sc (.int .i64 2)),(4,.ptr 0 0),(6,.ptr 1 0),(7,.sc (.bool false)),(27,.sc (.int .i64 l.length)),(28,.sc (.int .i64 1))],[(0,.box [.sc (.int .i64 (ni st 0)),.sc (.int .i64 (ni st 1)),.sc (.int .i64 (ni st 2))]),(1,.box [.sc (.int .i64 0),.sc (.int .i64 0),.sc (.int .i64 0)])]⟩|2=>⟨[(0,.ref tPlanner (plD3 l) 0),(2,.sc (.int .i64 2)),(4,.ptr 0 0),(6,.ptr 1 0),(7,.sc (.bool false)),(27,.sc (.int .i64 l.length)),(28,.sc (.int .i64 2))],[(0,.box [.sc (.int .i64 (ni st 0)),.sc (.int .i64 (ni st 1)),.sc (.int .i64 (ni st 2))]),(1,.box [.sc (.int .i64 0),.sc (.int .i64 0),.sc (.int .i64 0)])]⟩|_=>⟨[(0,.ref tPlanner (plD3 l) 0),(2,.sc (.int .i64 2)),(4,.ptr 0 0),(6,.ptr 1 0),(7,.sc (.bool false)),(27,.sc (.int .i64 l.length)),(28,.sc (.int .i64 3))],[(0,.box [.sc (.int .i64 (ni st 0)),.sc (.int .i64 (ni st 1)),.sc (.int .i64 (ni st 2))]),(1,.box [.sc (.int .i64 0),.sc (.int .i64 0),.sc (.int .i64 0)])]⟩) (fun y=>y<=3/\∀ i,i < y->frAt l st 2 i) (fun y=>3 - y) 0 ?_ ⟨Nat.zero_le _,fun i h=>absurd h (Nat.not_lt_zero _)⟩ ?_
  ·exact WK
  ·rintro y ⟨hy,hall⟩
   obtain rfl|rfl|rfl|rfl:y=0\/y=1\/y=2\/y=3:=by omega
   ·try simp (maxSteps:=9^9) only[go_sem]
    refine CondW_dec (fun hA=>?_) (fun hA=>absurd (by rw [hl]; decide) hA)
    cases hs:stpTB (nth (t:=tTour) l 2) (ni st 2) (nth (t:=tTour) l 0) (ni st 0)<;>rw [hs] at tc0
    ·try simp (maxSteps:=9^9) only[go_sem,ta0,tb0]
     repeat refine AI ?_
     try simp (maxSteps:=9^9) only[go_sem,ta0,tb0,tc0]
     repeat refine AI ?_
     refine LoopK.mk 1 ?_ ⟨by omega,fun i hi=>?_⟩ (by omega)
     ·exact WK
     ·by_cases h:i < 0
      ·exact hall i h
      ·rw [show i=0 by omega]; exact fun _=>hs
    ·rw [bdec_f (fun h=>by have:=h.2 0 (by rw [hl]; decide) (by decide); rw [hs] at this; cases this),cond_false]
     try simp (maxSteps:=9^9) only[go_sem,ta0,tb0]
     repeat refine AI ?_
     try simp (maxSteps:=9^9) only[go_sem,ta0,tb0,tc0]
     all_goals repeat refine AI ?_
     all_goals first|kernel_rfl|omega|rfl
   ·try simp (maxSteps:=9^9) only[go_sem]
    refine CondW_dec (fun hA=>?_) (fun hA=>absurd (by rw [hl]; decide) hA)
    cases hs:stpTB (nth (t:=tTour) l 2) (ni st 2) (nth (t:=tTour) l 1) (ni st 1)<;>rw [hs] at tc1
    ·try simp (maxSteps:=9^9) only[go_sem,ta1,tb1]
     repeat refine AI ?_
     try simp (maxSteps:=9^9) only[go_sem,ta1,tb1,tc1]
     repeat refine AI ?_
     refine LoopK.mk 2 ?_ ⟨by omega,fun i hi=>?_⟩ (by omega)
     ·exact WK
     ·by_cases h:i < 1
      ·exact hall i h
      ·rw [show i=1 by omega]; exact fun _=>hs
    ·rw [bdec_f (fun h=>by have:=h.2 1 (by rw [hl]; decide) (by decide); rw [hs] at this; cases this),cond_false]
     try simp (maxSteps:=9^9) only[go_sem,ta1,tb1]
     repeat refine AI ?_
     try simp (maxSteps:=9^9) only[go_sem,ta1,tb1,tc1]
     all_goals repeat refine AI ?_
     all_goals first|kernel_rfl|omega|rfl
   ·try simp (maxSteps:=9^9) only[go_sem]
    refine CondW_dec (fun hA=>?_) (fun hA=>absurd (by rw [hl]; decide) hA)
    try simp (maxSteps:=9^9) only[go_sem]
    repeat refine AI ?_
    refine LoopK.mk 3 ?_ ⟨by omega,fun i hi=>?_⟩ (by omega)
    ·exact WK
    ·by_cases h:i < 2
     ·exact hall i h
     ·intro hne; omega
   ·try simp (maxSteps:=9^9) only[go_sem]
    refine CondW_dec (fun hA=>by rw [hl] at hA; exact absurd hA (by decide)) (fun hA=>?_)
    rw [bdec_t ⟨h0,fun j hj=>hall j (by omega)⟩,cond_true]
    try simp (maxSteps:=9^9) only[go_sem]
    repeat refine AI ?_
    try simp (maxSteps:=9^9) only[go_sem]
    all_goals repeat refine AI ?_
    all_goals first|kernel_rfl|omega|rfl
def adv (st:List Int) (k:Nat):List Int:=st.set k (ni st k+1)
def okAt (l:List DT) (st:List Int) (k:Int):Prop:=(0<=k/\k<=(l.length:Int) - 1)/\frP l st k.toNat
open Classical in
noncomputable def schGo (l:List DT):List Int->List Int->Option (List Int)
 | [],st=>some st
 | k :: o,st=>if okAt l st k then schGo l o (adv st k.toNat) else none
def endP (l:List DT) (st:List Int):Prop:=∀ i,i < l.length->ni st i=(nth (t:=tTour) l i).2.2.length
theorem schGo_t {l:List DT} {k:Int} {o st:List Int} (h:okAt l st k):schGo l (k :: o) st=schGo l o (adv st k.toNat):=if_pos h
theorem schGo_f {l:List DT} {k:Int} {o st:List Int} (h:¬ okAt l st k):schGo l (k :: o) st=none:=if_neg h
theorem ni_set {st:List Int} {k i:Nat} {v:Int} (hk:k < st.length):ni (st.set k v) i=if i=k then v else ni st i:=by
 unfold ni
 by_cases h:i=k
 ·subst h
  rw [if_pos rfl,nth_lt (by rw [List.length_set]; exact hk)]
  simp
 ·rw [if_neg h]
  by_cases hi:i < st.length
  ·rw [nth_lt (by rw [List.length_set]; exact hi),nth_lt hi]
   simp [List.getElem_set,Ne.symm h]
  ·unfold nth
   simp [List.getD_eq_getElem?_getD,List.getElem?_set,Ne.symm h]
theorem adv_len {st:List Int} {k:Nat}:(adv st k).length=st.length:=by unfold adv; rw [List.length_set]
theorem ni_adv {st:List Int} {k i:Nat} (hk:k < st.length):ni (adv st k) i=if i=k then ni st k+1 else ni st i:=ni_set hk
theorem stP_adv {l:List DT} {st:List Int} {k:Nat} (h:stP l st) (hk:k < l.length) (hf:ni st k ≠ (nth (t:=tTour) l k).2.2.length):stP l (adv st k):=by
 have hk':k < st.length:=by rw [h.1]; exact hk
 refine ⟨by rw [adv_len]; exact h.1,fun i hi=>?_⟩
 rw [adv_len] at hi
 have hv:=h.2 i hi
 unfold stAt at hv ⊢
 rw [ni_adv hk']
 by_cases e:i=k
 ·subst e; rw [if_pos rfl]; omega
 ·rw [if_neg e]; exact hv
theorem stP_zero (l:List DT):stP l (List.replicate l.length 0):=by
 refine ⟨by simp,fun i hi=>?_⟩
 have:ni (List.replicate l.length 0) i=0:=by
  unfold ni; rw [nth_lt hi]; simp
 unfold stAt
 rw [this]
 exact ⟨Int.le_refl _,by omega⟩
theorem l28End_fn (l:List DT) (st:List Int) (hst:stP l st):Fn Tryz.prog 55 [⟨.slice tTour,l⟩,⟨tInts,st⟩] false [⟨.bool,bdec (endP l st)⟩]:=by
 have hlen:=hst.1
 refine fe Tryz.func55 Tryz.ntmps55 Tryz.results55 fun hwf=>?_
 have hl:l.length<=9223372036854775807:=(hwf ⟨.slice tTour,l⟩ (by simp)).1
 try simp (maxSteps:=9^9) only[go_sem]
 refine LoopG.intro _ _ _ (fun i:Nat=>⟨[(1,.sl .int st),(7,.sl tTour l),(8,.sc (.int .i64 l.length)),(9,.sc (.int .i64 i))],[]⟩) (fun i=>i<=l.length/\∀ j,j < i->ni st j=(nth (t:=tTour) l j).2.2.length) (fun i=>l.length - i) 0 ?_ ⟨Nat.zero_le _,fun j h=>absurd h (Nat.not_lt_zero _)⟩ ?_
 ·exact WK
 ·rintro i ⟨hi,hall⟩
  try simp (maxSteps:=9^9) only[go_sem]
  refine CondW_dec (fun hA=>?_) (fun hA=>?_)
  ·have hlt:i < l.length:=by omega
   have hv:=hst.2 i (by omega)
   unfold stAt at hv
   by_cases he:ni st i < (nth (t:=tTour) l i).2.2.length
   ·have d1:=decide_eq_true he
    rw [bdec_f fun h=>by have:=h i hlt; omega]
    try simp (maxSteps:=9^9) only[go_sem]
    repeat refine AI ?_
    try simp (maxSteps:=9^9) only[go_sem,d1]
    all_goals repeat refine AI ?_
    all_goals first|kernel_rfl|omega|rfl
   ·have d1:=decide_eq_false he
    try simp (maxSteps:=9^9) only[go_sem]
    repeat refine AI ?_
    try simp (maxSteps:=9^9) only[go_sem,d1]
    repeat refine AI ?_
    refine LoopK.mk (i+1) ?_ ⟨by omega,fun j hj=>?_⟩ (by omega)
    ·exact WK
    ·by_cases h:j < i
     ·exact hall j h
     ·rw [show j=i by omega]; omega
  ·rw [bdec_t (p:=endP l st) fun j hj=>hall j (by omega)]
   try simp (maxSteps:=9^9) only[go_sem]
   all_goals repeat refine AI ?_
   all_goals first|kernel_rfl|omega|rfl
set_option maxHeartbeats 4000000 in
theorem isEnd_fn1 (l:List DT) (hl:l.length=1) (st:List Int) (hst:stP l st):Fn Tryz.prog 36 [⟨.ext .ref tPlanner,some (plD1 l)⟩,⟨tState,(ni st 0,(0:Int),(0:Int))⟩] false [⟨.bool,bdec (endP l st)⟩]:=by
 have v0:=hst.2 0 (by rw [hst.1,hl]; decide)
 unfold stAt at v0
 refine fe Tryz.func36 Tryz.ntmps36 Tryz.results36 fun hwf=>?_
 try simp (maxSteps:=9^9) only[go_sem]
 repeat refine AI ?_
 refine LoopG.intro _ _ _ (fun y:Nat=>match y with|0=>⟨[(3,.ptr 0 0),(10,.sl tTour l),(11,.sc (.int .i64 l.length)),(12,.sc (.int .i64 0))],[(0,.box [.sc (.int .i64 (ni st 0)),.sc (.int .i64 0),.sc (.int .i64 0)])]⟩|_=>⟨[(3,.ptr 0 0),(10,.sl tTour l),(11,.sc (.int .i64 l.length)),(12,.sc (.int .i64 1))],[(0,.box [.sc (.int .i64 (ni st 0)),.sc (.int .i64 0),.sc (.int .i64 0)])]⟩) (fun y=>y<=1/\∀ j,j < y->ni st j=(nth (t:=tTour) l j).2.2.length) (fun y=>1 - y) 0 ?_ ⟨Nat.zero_le _,fun j h=>absurd h (Nat.not_lt_zero _)⟩ ?_
 ·exact WK
 ·rintro y ⟨hy,hall⟩
  obtain rfl|rfl:y=0\/y=1:=by omega
  ·try simp (maxSteps:=9^9) only[go_sem]
   refine CondW_dec (fun hA=>?_) (fun hA=>absurd (by rw [hl]; decide) hA)
   by_cases he:ni st 0=(nth (t:=tTour) l 0).2.2.length
   ·have d1:=decide_eq_true he
    try simp (maxSteps:=9^9) only[go_sem]
    repeat refine AI ?_
    try simp (maxSteps:=9^9) only[go_sem,d1]
    repeat refine AI ?_
    refine LoopK.mk 1 ?_ ⟨by omega,fun j hj=>?_⟩ (by omega)
    ·exact WK
    ·by_cases h:j < 0
     ·exact hall j h
     ·rw [show j=0 by omega]; exact he
   ·have d1:=decide_eq_false he
    rw [bdec_f fun h=>he (h 0 (by rw [hl]; decide))]
    try simp (maxSteps:=9^9) only[go_sem]
    repeat refine AI ?_
    try simp (maxSteps:=9^9) only[go_sem,d1]
    all_goals repeat refine AI ?_
    all_goals first|kernel_rfl|omega|rfl
  ·try simp (maxSteps:=9^9) only[go_sem]
   refine CondW_dec (fun hA=>by rw [hl] at hA; exact absurd hA (by decide)) (fun hA=>?_)
   rw [bdec_t (p:=endP l st) fun j hj=>hall j (by omega)]
   try simp (maxSteps:=9^9) only[go_sem]
   all_goals repeat refine AI ?_
   all_goals first|kernel_rfl|omega|rfl
set_option maxHeartbeats 4000000 in
theorem isEnd_fn2 (l:List DT) (hl:l.length=2) (st:List Int) (hst:stP l st):Fn Tryz.prog 36 [⟨.ext .ref tPlanner,some (plD2 l)⟩,⟨tState,(ni st 0,ni st 1,(0:Int))⟩] false [⟨.bool,bdec (endP l st)⟩]:=by
 have v0:=hst.2 0 (by rw [hst.1,hl]; decide)
 unfold stAt at v0
 have v1:=hst.2 1 (by rw [hst.1,hl]; decide)
 unfold stAt at v1
 refine fe Tryz.func36 Tryz.ntmps36 Tryz.results36 fun hwf=>?_
 try simp (maxSteps:=9^9) only[go_sem]
 repeat refine AI ?_
 refine LoopG.intro _ _ _ (fun y:Nat=>match y with|0=>⟨[(3,.ptr 0 0),(10,.sl tTour l),(11,.sc (.int .i64 l.length)),(12,.sc (.int .i64 0))],[(0,.box [.sc (.int .i64 (ni st 0)),.sc (.int .i64 (ni st 1)),.sc (.int .i64 0)])]⟩|1=>⟨[(3,.ptr 0 0),(10,.sl tTour l),(11,.sc (.int .i64 l.length)),(12,.sc (.int .i64 1))],[(0,.box [.sc (.int .i64 (ni st 0)),.sc (.int .i64 (ni st 1)),.sc (.int .i64 0)])]⟩|_=>⟨[(3,.ptr 0 0),(10,.sl tTour l),(11,.sc (.int .i64 l.length)),(12,.sc (.int .i64 2))],[(0,.box [.sc (.int .i64 (ni st 0)),.sc (.int .i64 (ni st 1)),.sc (.int .i64 0)])]⟩) (fun y=>y<=2/\∀ j,j < y->ni st j=(nth (t:=tTour) l j).2.2.length) (fun y=>2 - y) 0 ?_ ⟨Nat.zero_le _,fun j h=>absurd h (Nat.not_lt_zero _)⟩ ?_
 ·exact WK
 ·rintro y ⟨hy,hall⟩
  obtain rfl|rfl|rfl:y=0\/y=1\/y=2:=by omega
  ·try simp (maxSteps:=9^9) only[go_sem]
   refine CondW_dec (fun hA=>?_) (fun hA=>absurd (by rw [hl]; decide) hA)
   by_cases he:ni st 0=(nth (t:=tTour) l 0).2.2.length
   ·have d1:=decide_eq_true he
    try simp (maxSteps:=9^9) only[go_sem]
    repeat refine AI ?_
    try simp (maxSteps:=9^9) only[go_sem,d1]
    repeat refine AI ?_
    refine LoopK.mk 1 ?_ ⟨by omega,fun j hj=>?_⟩ (by omega)
    ·exact WK
    ·by_cases h:j < 0
     ·exact hall j h
     ·rw [show j=0 by omega]; exact he
   ·have d1:=decide_eq_false he
    rw [bdec_f fun h=>he (h 0 (by rw [hl]; decide))]
    try simp (maxSteps:=9^9) only[go_sem]
    repeat refine AI ?_
    try simp (maxSteps:=9^9) only[go_sem,d1]
    all_goals repeat refine AI ?_
    all_goals first|kernel_rfl|omega|rfl
  ·try simp (maxSteps:=9^9) only[go_sem]
   refine CondW_dec (fun hA=>?_) (fun hA=>absurd (by rw [hl]; decide) hA)
   by_cases he:ni st 1=(nth (t:=tTour) l 1).2.2.length
   ·have d1:=decide_eq_true he
    try simp (maxSteps:=9^9) only[go_sem]
    repeat refine AI ?_
    try simp (maxSteps:=9^9) only[go_sem,d1]
    repeat refine AI ?_
    refine LoopK.mk 2 ?_ ⟨by omega,fun j hj=>?_⟩ (by omega)
    ·exact WK
    ·by_cases h:j < 1
     ·exact hall j h
     ·rw [show j=1 by omega]; exact he
   ·have d1:=decide_eq_false he
    rw [bdec_f fun h=>he (h 1 (by rw [hl]; decide))]
    try simp (maxSteps:=9^9) only[go_sem]
    repeat refine AI ?_
    try simp (maxSteps:=9^9) only[go_sem,d1]
    all_goals repeat refine AI ?_
    all_goals first|kernel_rfl|omega|rfl
  ·try simp (maxSteps:=9^9) only[go_sem]
   refine CondW_dec (fun hA=>by rw [hl] at hA; exact absurd hA (by decide)) (fun hA=>?_)
   rw [bdec_t (p:=endP l st) fun j hj=>hall j (by omega)]
   try simp (maxSteps:=9^9) only[go_sem]
   all_goals repeat refine AI ?_
   all_goals first|kernel_rfl|omega|rfl
set_option maxHeartbeats 4000000 in
theorem isEnd_fn3 (l:List DT) (hl:l.length=3) (st:List Int) (hst:stP l st):Fn Tryz.prog 36 [⟨.ext .ref tPlanner,some (plD3 l)⟩,⟨tState,(ni st 0,ni st 1,ni st 2)⟩] false [⟨.bool,bdec (endP l st)⟩]:=by
 have v0:=hst.2 0 (by rw [hst.1,hl]; decide)
 unfold stAt at v0
 have v1:=hst.2 1 (by rw [hst.1,hl]; decide)
 unfold stAt at v1
 have v2:=hst.2 2 (by rw [hst.1,hl]; decide)
 unfold stAt at v2
 refine fe Tryz.func36 Tryz.ntmps36 Tryz.results36 fun hwf=>?_
 try simp (maxSteps:=9^9) only[go_sem]
 repeat refine AI ?_
 refine LoopG.intro _ _ _ (fun y:Nat=>match y with|0=>⟨[(3,.ptr 0 0),(10,.sl tTour l),(11,.sc (.int .i64 l.length)),(12,.sc (.int .i64 0))],[(0,.box [.sc (.int .i64 (ni st 0)),.sc (.int .i64 (ni st 1)),.sc (.int .i64 (ni st 2))])]⟩|1=>⟨[(3,.ptr 0 0),(10,.sl tTour l),(11,.sc (.int .i64 l.length)),(12,.sc (.int .i64 1))],[(0,.box [.sc (.int .i64 (ni st 0)),.sc (.int .i64 (ni st 1)),.sc (.int .i64 (ni st 2))])]⟩|2=>⟨[(3,.ptr 0 0),(10,.sl tTour l),(11,.sc (.int .i64 l.length)),(12,.sc (.int .i64 2))],[(0,.box [.sc (.int .i64 (ni st 0)),.sc (.int .i64 (ni st 1)),.sc (.int .i64 (ni st 2))])]⟩|_=>⟨[(3,.ptr 0 0),(10,.sl tTour l),(11,.sc (.int .i64 l.length)),(12,.sc (.int .i64 3))],[(0,.box [.sc (.int .i64 (ni st 0)),.sc (.int .i64 (ni st 1)),.sc (.int .i64 (ni st 2))])]⟩) (fun y=>y<=3/\∀ j,j < y->ni st j=(nth (t:=tTour) l j).2.2.length) (fun y=>3 - y) 0 ?_ ⟨Nat.zero_le _,fun j h=>absurd h (Nat.not_lt_zero _)⟩ ?_
 ·exact WK
 ·rintro y ⟨hy,hall⟩
  obtain rfl|rfl|rfl|rfl:y=0\/y=1\/y=2\/y=3:=by omega
  ·try simp (maxSteps:=9^9) only[go_sem]
   refine CondW_dec (fun hA=>?_) (fun hA=>absurd (by rw [hl]; decide) hA)
   by_cases he:ni st 0=(nth (t:=tTour) l 0).2.2.length
   ·have d1:=decide_eq_true he
    try simp (maxSteps:=9^9) only[go_sem]
    repeat refine AI ?_
    try simp (maxSteps:=9^9) only[go_sem,d1]
    repeat refine AI ?_
    refine LoopK.mk 1 ?_ ⟨by omega,fun j hj=>?_⟩ (by omega)
    ·exact WK
    ·by_cases h:j < 0
     ·exact hall j h
     ·rw [show j=0 by omega]; exact he
   ·have d1:=decide_eq_false he
    rw [bdec_f fun h=>he (h 0 (by rw [hl]; decide))]
    try simp (maxSteps:=9^9) only[go_sem]
    repeat refine AI ?_
    try simp (maxSteps:=9^9) only[go_sem,d1]
    all_goals repeat refine AI ?_
    all_goals first|kernel_rfl|omega|rfl
  ·try simp (maxSteps:=9^9) only[go_sem]
   refine CondW_dec (fun hA=>?_) (fun hA=>absurd (by rw [hl]; decide) hA)
   by_cases he:ni st 1=(nth (t:=tTour) l 1).2.2.length
   ·have d1:=decide_eq_true he
    try simp (maxSteps:=9^9) only[go_sem]
    repeat refine AI ?_
    try simp (maxSteps:=9^9) only[go_sem,d1]
    repeat refine AI ?_
    refine LoopK.mk 2 ?_ ⟨by omega,fun j hj=>?_⟩ (by omega)
    ·exact WK
    ·by_cases h:j < 1
     ·exact hall j h
     ·rw [show j=1 by omega]; exact he
   ·have d1:=decide_eq_false he
    rw [bdec_f fun h=>he (h 1 (by rw [hl]; decide))]
    try simp (maxSteps:=9^9) only[go_sem]
    repeat refine AI ?_
    try simp (maxSteps:=9^9) only[go_sem,d1]
    all_goals repeat refine AI ?_
    all_goals first|kernel_rfl|omega|rfl
  ·try simp (maxSteps:=9^9) only[go_sem]
   refine CondW_dec (fun hA=>?_) (fun hA=>absurd (by rw [hl]; decide) hA)
   by_cases he:ni st 2=(nth (t:=tTour) l 2).2.2.length
   ·have d1:=decide_eq_true he
    try simp (maxSteps:=9^9) only[go_sem]
    repeat refine AI ?_
    try simp (maxSteps:=9^9) only[go_sem,d1]
    repeat refine AI ?_
    refine LoopK.mk 3 ?_ ⟨by omega,fun j hj=>?_⟩ (by omega)
    ·exact WK
    ·by_cases h:j < 2
     ·exact hall j h
     ·rw [show j=2 by omega]; exact he
   ·have d1:=decide_eq_false he
    rw [bdec_f fun h=>he (h 2 (by rw [hl]; decide))]
    try simp (maxSteps:=9^9) only[go_sem]
    repeat refine AI ?_
    try simp (maxSteps:=9^9) only[go_sem,d1]
    all_goals repeat refine AI ?_
    all_goals first|kernel_rfl|omega|rfl
  ·try simp (maxSteps:=9^9) only[go_sem]
   refine CondW_dec (fun hA=>by rw [hl] at hA; exact absurd hA (by decide)) (fun hA=>?_)
   rw [bdec_t (p:=endP l st) fun j hj=>hall j (by omega)]
   try simp (maxSteps:=9^9) only[go_sem]
   all_goals repeat refine AI ?_
   all_goals first|kernel_rfl|omega|rfl
def s3 (st:List Int):tState.den:=(ni st 0,(ni st 1,ni st 2))
noncomputable def plT (l:List DT):tTabs.den:=if l.length=1 then plT1 l else if l.length=2 then plT2 l else plT3 l
theorem plT_1 {l:List DT} (h:l.length=1):plT l=plT1 l:=if_pos h
theorem plT_2 {l:List DT} (h:l.length=2):plT l=plT2 l:=by unfold plT; rw [if_neg (by omega),if_pos h]
theorem plT_3 {l:List DT} (h:l.length=3):plT l=plT3 l:=by unfold plT; rw [if_neg (by omega),if_neg (by omega)]
noncomputable def plD (l:List DT):tPlanner.den:=(l,(plT l,some (0:Int)))
theorem newPlanner_fn (l:List DT) (h:1<=l.length/\l.length<=3):FnNP Tryz.prog 33 [⟨.slice tTour,l⟩] tPl0 (l,plT l):=by
 obtain hl|hl|hl:l.length=1\/l.length=2\/l.length=3:=by omega
 ·rw [plT_1 hl]; exact newPlanner_fn1 l hl
 ·rw [plT_2 hl]; exact newPlanner_fn2 l hl
 ·rw [plT_3 hl]; exact newPlanner_fn3 l hl
theorem s3_1 {l:List DT} {st:List Int} (hst:stP l st) (hl:l.length=1):s3 st=(ni st 0,((0:Int),(0:Int))):=by
 unfold s3; rw [ni_ge (i:=1) (by have:=hst.1; omega),ni_ge (i:=2) (by have:=hst.1; omega)]
theorem s3_2 {l:List DT} {st:List Int} (hst:stP l st) (hl:l.length=2):s3 st=(ni st 0,(ni st 1,(0:Int))):=by
 unfold s3; rw [ni_ge (i:=2) (by have:=hst.1; omega)]
theorem s3_adv {l:List DT} {st:List Int} (hst:stP l st) {k:Nat} (hk:k < l.length):s3 (adv st k)=(if 0=k then ni st 0+1 else ni st 0,(if 1=k then ni st 1+1 else ni st 1,if 2=k then ni st 2+1 else ni st 2)):=by
 have hk':k < st.length:=by rw [hst.1]; exact hk
 unfold s3
 rw [ni_adv hk',ni_adv hk',ni_adv hk']
 congr 1
 ·split
  ·rename_i e; rw [<-e]
  ·rfl
 ·congr 1
  ·split
   ·rename_i e; rw [<-e]
   ·rfl
  ·split
   ·rename_i e; rw [<-e]
   ·rfl
theorem advance_fn (l:List DT) (h:1<=l.length/\l.length<=3) (st:List Int) (har:arP l) (hst:stP l st) (k:Nat) (hk:k < l.length):Fn Tryz.prog 37 [⟨.ext .ref tPlanner,some (plD l)⟩,⟨tState,s3 st⟩,⟨.int,(k:Int)⟩] false [⟨tState,bif bdec (frP l st k) then s3 (adv st k) else s3 st⟩,⟨.bool,bdec (frP l st k)⟩]:=by
 obtain hl|hl|hl:l.length=1\/l.length=2\/l.length=3:=by omega
 ·obtain rfl:k=0:=by omega
  have hz:ni st 1=0/\ni st 2=0:=⟨ni_ge (by have:=hst.1; omega),ni_ge (by have:=hst.1; omega)⟩
  have:=advance_fn10 l hl st har hst
  rw [s3_adv hst hk,s3_1 hst hl,hz.1,hz.2]
  unfold plD
  rw [plT_1 hl]
  exact this
 ·have hz:ni st 2=0:=ni_ge (by have:=hst.1; omega)
  obtain rfl|rfl:k=0\/k=1:=by omega
  ·have:=advance_fn20 l hl st har hst
   rw [s3_adv hst hk,s3_2 hst hl,hz]
   unfold plD
   rw [plT_2 hl]
   exact this
  ·have:=advance_fn21 l hl st har hst
   rw [s3_adv hst hk,s3_2 hst hl,hz]
   unfold plD
   rw [plT_2 hl]
   exact this
 ·obtain rfl|rfl|rfl:k=0\/k=1\/k=2:=by omega
  ·have:=advance_fn30 l hl st har hst
   rw [s3_adv hst hk]
   unfold plD
   rw [plT_3 hl]
   exact this
  ·have:=advance_fn31 l hl st har hst
   rw [s3_adv hst hk]
   unfold plD
   rw [plT_3 hl]
   exact this
  ·have:=advance_fn32 l hl st har hst
   rw [s3_adv hst hk]
   unfold plD
   rw [plT_3 hl]
   exact this
theorem isEnd_fn (l:List DT) (h:1<=l.length/\l.length<=3) (st:List Int) (hst:stP l st):Fn Tryz.prog 36 [⟨.ext .ref tPlanner,some (plD l)⟩,⟨tState,s3 st⟩] false [⟨.bool,bdec (endP l st)⟩]:=by
 unfold plD
 obtain hl|hl|hl:l.length=1\/l.length=2\/l.length=3:=by omega
 ·rw [plT_1 hl,s3_1 hst hl]; exact isEnd_fn1 l hl st hst
 ·rw [plT_2 hl,s3_2 hst hl]; exact isEnd_fn2 l hl st hst
 ·rw [plT_3 hl]; exact isEnd_fn3 l hl st hst
@[go_sem] theorem s3_a (st:List Int):(s3 st).1=ni st 0:=(rfl)
@[go_sem] theorem s3_b (st:List Int):(s3 st).2.1=ni st 1:=(rfl)
@[go_sem] theorem s3_c (st:List Int):(s3 st).2.2=ni st 2:=(rfl)
def canP (l:List DT) (st:List Int):Prop:=∃ o st',schGo l o st=some st'/\endP l st'
theorem canP_end {l:List DT} {st:List Int} (h:endP l st):canP l st:=⟨[],st,rfl,h⟩
theorem canP_step {l:List DT} {st:List Int} {k:Nat} (hk:k < l.length) (hf:frP l st k) (h:canP l (adv st k)):canP l st:=by
 obtain ⟨o,st',h1,h2⟩:=h
 refine ⟨(k:Int) :: o,st',?_,h2⟩
 rw [schGo_t ⟨by omega,by rw [Int.toNat_natCast]; exact hf⟩,Int.toNat_natCast]
 exact h1
theorem canP_inv {l:List DT} {st:List Int} (h:canP l st):endP l st\/∃ k,k < l.length/\frP l st k/\canP l (adv st k):=by
 obtain ⟨o,st',h1,h2⟩:=h
 cases o with
 | nil=>injection h1 with h1; subst h1; exact .inl h2
 | cons z o =>
  by_cases hz:okAt l st z
  ·rw [schGo_t hz] at h1
   exact .inr ⟨z.toNat,by have:=hz.1; omega,hz.2,o,st',h1,h2⟩
  ·rw [schGo_f hz] at h1; cases h1
def remN (l:List DT) (st:List Int):Nat:=((List.range l.length).map fun i=>((nth (t:=tTour) l i).2.2.length - ni st i).toNat).sum
theorem sum_lt {f g:Nat->Nat}:∀ {n k:Nat},k < n->(∀ i,i < n->i ≠ k->f i=g i)->f k < g k->((List.range n).map f).sum < ((List.range n).map g).sum
 | 0,k,h,_,_=>by omega
 | n+1,k,h,he,hl=>by
  rw [List.range_succ,List.map_append,List.map_append,List.sum_append,List.sum_append]
  simp only [List.map_cons,List.map_nil,List.sum_cons,List.sum_nil]
  by_cases hk:k=n
  ·subst hk
   have:(List.range k).map f=(List.range k).map g:=List.map_congr_left fun i hi=>he i (by have:=List.mem_range.1 hi; omega) (by have:=List.mem_range.1 hi; omega)
   rw [this]; omega
  ·have:=sum_lt (n:=n) (k:=k) (f:=f) (g:=g) (by omega) (fun i hi=>he i (by omega)) hl
   have:=he n (by omega) (fun e=>hk e.symm)
   omega
theorem remN_adv {l:List DT} {st:List Int} (hst:stP l st) {k:Nat} (hk:k < l.length) (hf:frP l st k):remN l (adv st k) < remN l st:=by
 have hk':k < st.length:=by rw [hst.1]; exact hk
 have hv:=hst.2 k hk'
 unfold stAt at hv
 have hne:=hf.1
 refine sum_lt hk (fun i hi hik=>?_) ?_
 ·simp only [ni_adv hk',if_neg hik]
 ·simp only [ni_adv hk',if_pos]
  omega
abbrev Memo:=List ((Int × Int × Int) × Bool)
section
variable (l:List DT)
end
theorem bdec_i {p q:Prop} (h:p ↔ q):bdec p=bdec q:=by
 by_cases hp:p
 ·rw [bdec_t hp,bdec_t (h.1 hp)]
 ·rw [bdec_f hp,bdec_f fun hq=>hp (h.2 hq)]
theorem s3_inj {l:List DT} (h:l.length<=3) {st st':List Int} (h1:stP l st) (h2:stP l st') (e:s3 st=s3 st'):st=st':=by
 have e0:ni st 0=ni st' 0:=congrArg (fun p:tState.den=>p.1) e
 have e1:ni st 1=ni st' 1:=congrArg (fun p:tState.den=>p.2.1) e
 have e2:ni st 2=ni st' 2:=congrArg (fun p:tState.den=>p.2.2) e
 have hl:=h1.1
 have hl':=h2.1
 refine List.ext_getElem (by omega) fun i hi hi'=>?_
 have:ni st i=ni st' i:=by
  obtain rfl|rfl|rfl:i=0\/i=1\/i=2:=by omega
  ·exact e0
  ·exact e1
  ·exact e2
 rw [ni_lt hi,ni_lt hi'] at this
 exact this
theorem keyOf_3 {P:Program} {k e:TypeId} (A:WideMaps.ArrKey P k e 3) (he:P.underlying e=some (.int .i64)) (hsz:∃ m,P.types.size=m+1) {s:Int × Int × Int} (hs:I3 s):∃ q,keyOf P k (K3 s)=some q:=by
 have wf:∀ {a:Int},I64 a->(Lit.int .i64 a).wf=true:=fun {a} h=>by
  obtain ⟨h1,h2⟩:=h
  unfold Lit.wf
  rw [Bool.and_eq_true,decide_eq_true_iff,decide_eq_true_iff,show IntKind.min .i64=-9223372036854775808 by decide,show IntKind.max .i64=9223372036854775807 by decide]
  exact ⟨h1,h2⟩
 have w1:=wf hs.1
 have w2:=wf hs.2.1
 have w3:=wf hs.2.2
 have hkt:=A.keyType hsz
 obtain ⟨m,hm⟩:=hsz
 refine ⟨.string (keyBytes [.int .i64 s.1,.int .i64 s.2.1,.int .i64 s.2.2]),?_⟩
 unfold keyOf K3
 simp only [A.hu]
 rw [if_pos (by simp [hkt,Value.formed,A.hu,A.size]),hm]
 unfold Program.keyLits
 simp only [A.hu,Value.cells]
 rw [if_pos (by rw [A.size]; rfl),show List.range 3=[0,1,2] from rfl,List.mapM_cons,List.mapM_cons,List.mapM_cons,List.mapM_nil]
 simp [A.one,Program.keyLits,he,w1,w2,w3]
theorem keyOK:KeyK Tryz.prog 112:=⟨68,4,by kernel_rfl,Maps.Keyed.of_law (deep_law_laid (by kernel_rfl) (m:=3) (by omega) (of_decide_eq_true (by kernel_rfl)) (by kernel_rfl) (by kernel_rfl)),fun s hs=>keyOf_3 (e:=3) ⟨by kernel_rfl,by kernel_rfl,by kernel_rfl,by kernel_rfl⟩ (by kernel_rfl) ⟨_,rfl⟩ hs,fun w=>by kernel_rfl⟩
@[go_sem] theorem keyOK_t:KeyK Tryz.prog 112=True:=eq_true keyOK
theorem tour8 {l:List DT} (h:arP l) {i:Nat} (hi:i < l.length):(nth (t:=tTour) l i).2.2.length<=8:=by
 have:=(tour_parts (h i hi).1).2.2.2.1
 omega
theorem nodup_sub {α:Type} [DecidableEq α]:∀ {L M:List α},L.Nodup->(∀ x ∈ L,x ∈ M)->L.length<=M.length
 | [],_,_,_=>Nat.zero_le _
 | a :: L,M,hn,hs=>by
  have ha:=hs a List.mem_cons_self
  have hn':=List.nodup_cons.1 hn
  have:=nodup_sub (L:=L) (M:=M.erase a) hn'.2 fun x hx=>(List.mem_erase_of_ne (fun e:x=a=>hn'.1 (e ▸ hx))).2 (hs x (List.mem_cons_of_mem _ hx))
  rw [List.length_erase_of_mem ha] at this
  have:0 < M.length:=List.length_pos_of_mem ha
  simp only [List.length_cons]; omega
theorem nodup_same {α:Type} [DecidableEq α] {L M:List α} (h1:L.Nodup) (h2:M.Nodup) (h:∀ x,x ∈ L ↔ x ∈ M):L.length=M.length :=
 Nat.le_antisymm (nodup_sub h1 fun x=>(h x).1) (nodup_sub h2 fun x=>(h x).2)
theorem nodup_ltn {n:Nat} {L:List Nat} (h:L.Nodup) (hl:∀ x ∈ L,x < n):L.length<=n:=by
 have:=nodup_sub h (M:=List.range n) fun x hx=>List.mem_range.2 (hl x hx)
 rwa [List.length_range] at this
theorem sum_setI:∀ {L:List Int} {k:Nat} {v:Int} (h:k < L.length),(L.set k v).sum=L.sum - L[k]+v
 | a :: L,0,v,_=>by simp [List.sum_cons]; omega
 | a :: L,k+1,v,h=>by
  have:=sum_setI (L:=L) (k:=k) (v:=v) (by simpa using h)
  simp [List.sum_cons,this]; omega
theorem nodup_map' {α β:Type} {f:α->β}:∀ {L:List α},L.Nodup->(∀ x ∈ L,∀ y ∈ L,f x=f y->x=y)->(L.map f).Nodup
 | [],_,_=>List.nodup_nil
 | a :: L,h,hi=>by
  have h':=List.nodup_cons.1 h
  rw [List.map_cons,List.nodup_cons]
  refine ⟨fun hm=>?_,nodup_map' h'.2 fun x hx y hy=>hi x (List.mem_cons_of_mem _ hx) y (List.mem_cons_of_mem _ hy)⟩
  obtain ⟨y,hy,e⟩:=List.mem_map.1 hm
  exact h'.1 ((hi y (List.mem_cons_of_mem _ hy) a List.mem_cons_self e) ▸ hy)
theorem sum_adv {st:List Int} {k:Nat} (h:k < st.length):(adv st k).sum=st.sum+1:=by
 unfold adv
 rw [sum_setI h,ni_lt h]; omega
inductive Rea (l:List DT) (s:List Int):List Int->Prop
 | base:Rea l s s
 | step {t:List Int} {k:Nat}:Rea l s t->k < l.length->frP l t k->Rea l s (adv t k)
theorem Rea.val {l:List DT} {s t:List Int} (hs:stP l s) (h:Rea l s t):stP l t:=by
 induction h with
 | base=>exact hs
 | step h hk hf ih=>exact stP_adv ih hk hf.1
def cod (st:List Int):Nat:=(ni st 0).toNat+9 * (ni st 1).toNat+81 * (ni st 2).toNat
theorem ni_8 {l:List DT} (har:arP l) {st:List Int} (hst:stP l st) (i:Nat):0<=ni st i/\ni st i<=8:=by
 by_cases hi:i < st.length
 ·have:=hst.2 i hi
  have h8:=tour8 har (i:=i) (by rw [<-hst.1]; exact hi)
  unfold stAt at this
  omega
 ·rw [ni_ge (by omega)]; omega
theorem vals_le {l:List DT} (har:arP l) (h3:l.length<=3) {S:List (List Int)} (hn:S.Nodup) (hv:∀ t ∈ S,stP l t):S.length<=729:=by
 have:=nodup_ltn (n:=729) (L:=S.map cod) (nodup_map' hn fun x hx y hy e=>?_) fun x hx=>?_
 ·rwa [List.length_map] at this
 ·have h0:=ni_8 har (hv x hx) 0
  have h1:=ni_8 har (hv x hx) 1
  have h2:=ni_8 har (hv x hx) 2
  have g0:=ni_8 har (hv y hy) 0
  have g1:=ni_8 har (hv y hy) 1
  have g2:=ni_8 har (hv y hy) 2
  unfold cod at e
  have e0:ni x 0=ni y 0:=by omega
  have e1:ni x 1=ni y 1:=by omega
  have e2:ni x 2=ni y 2:=by omega
  refine s3_inj h3 (hv x hx) (hv y hy) (by unfold s3; rw [e0,e1,e2])
 ·obtain ⟨st,hs,rfl⟩:=List.mem_map.1 hx
  have h0:=ni_8 har (hv st hs) 0
  have h1:=ni_8 har (hv st hs) 1
  have h2:=ni_8 har (hv st hs) 2
  unfold cod
  omega
def RowK (l:List DT) (S:List (List Int)) (st row:List Int):Prop:=∀ k,k < row.length->(frP l st k->0<=ni row k/\S[(ni row k).toNat]? = some (adv st k))/\(¬ frP l st k->ni row k=-1)
structure Gr (l:List DT) (s0:List Int) (S:List (List Int)):Prop where
 ne:S[0]? = some s0
 nd:S.Nodup
 va:∀ t ∈ S,stP l t/\Rea l s0 t
 so:∀ (a b:Nat) (x y:List Int),a<=b->S[a]? = some x->S[b]? = some y->x.sum<=y.sum
theorem Gr.one {l:List DT} {s0:List Int} (h:stP l s0):Gr l s0 [s0] :=
 ⟨rfl,by simp,fun t ht=>by rw [List.mem_singleton.1 ht]; exact ⟨h,.base⟩,fun a b x y hab hx hy=>by
  obtain ⟨h1,e1⟩:=List.getElem?_eq_some_iff.1 hx
  obtain ⟨h2,e2⟩:=List.getElem?_eq_some_iff.1 hy
  simp at h1 h2; subst h1 h2
  simp at e1 e2; subst e1 e2; omega⟩
theorem Gr.push {l:List DT} {s0:List Int} {S:List (List Int)} (h:Gr l s0 S) {st:List Int} (hst:st ∈ S) {k:Nat} (hk:k < l.length) (hf:frP l st k) (hn:adv st k ∉ S) (hm:∀ x ∈ S,x.sum<=st.sum+1):Gr l s0 (S++[adv st k]):=by
 obtain ⟨v1,v2⟩:=h.va st hst
 have hsum:=sum_adv (st:=st) (k:=k) (by rw [v1.1]; exact hk)
 refine ⟨?_,?_,fun t ht=>?_,fun a b x y hab hx hy=>?_⟩
 ·have:=h.ne
  rw [List.getElem?_append_left (List.getElem?_eq_some_iff.1 this).1]; exact this
 ·rw [List.nodup_append]
  exact ⟨h.nd,by simp,fun x hx y hy e=>hn (by rw [List.mem_singleton.1 hy] at e; exact e ▸ hx)⟩
 ·rcases List.mem_append.1 ht with ht|ht
  ·exact h.va t ht
  ·rw [List.mem_singleton.1 ht]
   exact ⟨stP_adv v1 hk hf.1,v2.step hk hf⟩
 ·by_cases hb:b < S.length
  ·rw [List.getElem?_append_left hb] at hy
   rw [List.getElem?_append_left (by omega)] at hx
   exact h.so a b x y hab hx hy
  ·rw [List.getElem?_append_right (by omega)] at hy
   obtain ⟨h2,e2⟩:=List.getElem?_eq_some_iff.1 hy
   simp at h2
   have hb':b=S.length:=by omega
   subst hb'
   simp at e2; subst e2
   by_cases ha:a < S.length
   ·rw [List.getElem?_append_left ha] at hx
    rw [hsum]
    exact hm x (List.mem_of_getElem? hx)
   ·have:a=S.length:=by omega
    subst this
    simp at hx; subst hx; omega
theorem RowK.more {l:List DT} {S T:List (List Int)} {st row:List Int} (h:RowK l S st row):RowK l (S++T) st row:=fun k hk=>⟨fun hf=>by
  obtain ⟨h1,h2⟩:=(h k hk).1 hf
  exact ⟨h1,by rw [List.getElem?_append_left (List.getElem?_eq_some_iff.1 h2).1]; exact h2⟩,(h k hk).2⟩
theorem ni_app {row:List Int} {v:Int} {k:Nat}:ni (row++[v]) k=if k < row.length then ni row k else if k=row.length then v else 0:=by
 by_cases h:k < row.length
 ·rw [if_pos h,ni_lt (by simp; omega),ni_lt h,List.getElem_append_left h]
 ·rw [if_neg h]
  by_cases e:k=row.length
  ·subst e; rw [if_pos rfl,ni_lt (by simp)]; simp
  ·rw [if_neg e,ni_ge (by simp; omega)]
theorem RowK.snoc {l:List DT} {S:List (List Int)} {st row:List Int} {v:Int} (h:RowK l S st row) (hv:(frP l st row.length->0<=v/\S[v.toNat]? = some (adv st row.length))/\(¬ frP l st row.length->v=-1)):RowK l S st (row++[v]):=fun k hk=>by
 rw [ni_app]
 by_cases h1:k < row.length
 ·rw [if_pos h1]; exact h k h1
 ·have:k=row.length:=by simp at hk; omega
  subst this
  rw [if_neg h1,if_pos rfl]; exact hv
structure GrI (l:List DT) (s0:List Int) (S N:List (List Int)):Prop where
 g:Gr l s0 S
 len:N.length<=S.length
 row:∀ (j:Nat) (row st:List Int),N[j]? = some row->S[j]? = some st->row.length=l.length/\RowK l S st row
 top:∀ x ∈ S,∀ st,S[N.length]? = some st->x.sum<=st.sum+1
theorem GrI.one {l:List DT} {s0:List Int} (h:stP l s0):GrI l s0 [s0] [] :=
 ⟨.one h,Nat.zero_le _,fun j row st h=>by simp at h,fun x hx st hst=>by
  simp at hst; subst hst; rw [List.mem_singleton.1 hx]; omega⟩
theorem GrI.push {l:List DT} {s0:List Int} {S N:List (List Int)} (h:GrI l s0 S N) {st:List Int} (hst:S[N.length]? = some st) {k:Nat} (hk:k < l.length) (hf:frP l st k) (hn:adv st k ∉ S):GrI l s0 (S++[adv st k]) N:=by
 have hm:=List.mem_of_getElem? hst
 have hlt:=(List.getElem?_eq_some_iff.1 hst).1
 have hsum:=sum_adv (st:=st) (k:=k) (by rw [(h.g.va st hm).1.1]; exact hk)
 refine ⟨h.g.push hm hk hf hn fun x hx=>h.top x hx st hst,by simp; omega,fun j row st' h1 h2=>?_,fun x hx st' hst'=>?_⟩
 ·have hj:=(List.getElem?_eq_some_iff.1 h1).1
  rw [List.getElem?_append_left (by omega)] at h2
  obtain ⟨r1,r2⟩:=h.row j row st' h1 h2
  exact ⟨r1,r2.more⟩
 ·rw [List.getElem?_append_left hlt,hst] at hst'
  injection hst' with hst'; subst hst'
  rcases List.mem_append.1 hx with hx|hx
  ·exact h.top x hx st hst
  ·rw [List.mem_singleton.1 hx,hsum]; omega
theorem GrI.next {l:List DT} {s0:List Int} {S N:List (List Int)} (h:GrI l s0 S N) {st row:List Int} (hst:S[N.length]? = some st) (h1:row.length=l.length) (h2:RowK l S st row):GrI l s0 S (N++[row]):=by
 have hlt:=(List.getElem?_eq_some_iff.1 hst).1
 refine ⟨h.g,by simp; omega,fun j row' st' g1 g2=>?_,fun x hx st' hst'=>?_⟩
 ·by_cases hj:j < N.length
  ·rw [List.getElem?_append_left hj] at g1
   exact h.row j row' st' g1 g2
  ·rw [List.getElem?_append_right (by omega)] at g1
   obtain ⟨h4,e4⟩:=List.getElem?_eq_some_iff.1 g1
   simp at h4
   have:j=N.length:=by omega
   subst this
   simp at e4; subst e4
   rw [hst] at g2; injection g2 with g2; subst g2
   exact ⟨h1,h2⟩
 ·have:=h.top x hx st hst
  simp at hst'
  have:=h.g.so N.length (N.length+1) st st' (by omega) hst hst'
  omega
theorem GrI.mem {l:List DT} {s0:List Int} {S N:List (List Int)} (h:GrI l s0 S N) (he:N.length=S.length) (t:List Int):t ∈ S ↔ Rea l s0 t:=by
 refine ⟨fun ht=>(h.g.va t ht).2,fun ht=>?_⟩
 induction ht with
 | base=>exact List.mem_of_getElem? h.g.ne
 | @step t k _ hk hf ih =>
  obtain ⟨j,hj,rfl⟩:=List.getElem_of_mem ih
  obtain ⟨r1,r2⟩:=h.row j (N[j]'(by omega)) S[j] (List.getElem?_eq_getElem (by omega)) (List.getElem?_eq_getElem hj)
  exact List.mem_of_getElem? ((r2 k (by omega)).1 hf).2
theorem GrI.later {l:List DT} {s0:List Int} {S N:List (List Int)} (h:GrI l s0 S N) {j m k:Nat} {st:List Int} (hst:S[j]? = some st) (hk:k < l.length) (hm:S[m]? = some (adv st k)):j < m:=by
 have hs:=sum_adv (st:=st) (k:=k) (by rw [(h.g.va st (List.mem_of_getElem? hst)).1.1]; exact hk)
 by_cases hjm:j < m
 ·exact hjm
 ·have:=h.g.so m j _ _ (by omega) hm hst
  omega
def okF (l:List DT) (st:List Int) (k:Nat):Prop:=frP l st k/\canP l (adv st k)
noncomputable def coo (l:List DT):Nat->List Int->List Int
 | 0,_=>[]
 | n+1,st=>bif bdec (endP l st) then [] else match (List.range l.length).find? (fun k=>bdec (okF l st k)) with
  | some k=>(k:Int) :: coo l n (adv st k)
  | none=>[]
theorem coo_s (l:List DT) (n:Nat) (st:List Int):coo l (n+1) st=bif bdec (endP l st) then [] else match (List.range l.length).find? (fun k=>bdec (okF l st k)) with
  | some k=>(k:Int) :: coo l n (adv st k)
  | none=>[]:=by rw [coo]
theorem coo_end {l:List DT} {st:List Int} (h:endP l st) (n:Nat):coo l n st=[]:=by
 cases n with
 | zero=>rfl
 | succ n=>rw [coo_s,bdec_t h]; rfl
theorem coo_step {l:List DT} {st:List Int} {n k:Nat} (h:¬ endP l st) (hk:k < l.length) (hf:okF l st k) (hn:∀ j,j < k->¬ okF l st j):coo l (n+1) st=(k:Int) :: coo l n (adv st k):=by
 have:(List.range l.length).find? (fun k=>bdec (okF l st k))=some k:=by
  rw [List.find?_range_eq_some]
  exact ⟨bdec_t hf,List.mem_range.2 hk,fun j hj=>by rw [bdec_f (hn j hj)]; rfl⟩
 rw [coo_s,this,bdec_f h]
 rfl
def CoI (l:List DT) (s0 st out:List Int):Prop:=stP l st/\canP l st/\st.sum=s0.sum+out.length/\∃ m,remN l st<=m/\out++coo l m st=coo l (remN l s0) s0
theorem CoI.start {l:List DT} {s0:List Int} (h:stP l s0) (hc:canP l s0):CoI l s0 s0 []:=⟨h,hc,by simp,_,Nat.le_refl _,rfl⟩
theorem CoI.step {l:List DT} {s0 st out:List Int} (h:CoI l s0 st out) {k:Nat} (he:¬ endP l st) (hk:k < l.length) (hf:okF l st k) (hn:∀ j,j < k->¬ okF l st j):CoI l s0 (adv st k) (out++[(k:Int)]):=by
 obtain ⟨h1,h2,hsm,m,h3,h4⟩:=h
 have hr:=remN_adv h1 hk hf.1
 have hsa:=sum_adv (st:=st) (k:=k) (by rw [h1.1]; exact hk)
 obtain ⟨m,rfl⟩:∃ m',m=m'+1:=⟨m - 1,by omega⟩
 rw [coo_step he hk hf hn] at h4
 exact ⟨stP_adv h1 hk hf.1.1,hf.2,by rw [hsa,hsm]; simp; omega,m,by omega,by rw [<-h4]; simp⟩
theorem CoI.fin {l:List DT} {s0 st out:List Int} (h:CoI l s0 st out) (he:endP l st):out=coo l (remN l s0) s0:=by
 obtain ⟨_,_,_,m,_,h4⟩:=h
 rw [coo_end he] at h4
 simpa using h4
theorem Rea.trans {l:List DT} {s t u:List Int} (h:Rea l s t) (g:Rea l t u):Rea l s u:=by
 induction g with
 | base=>exact h
 | step _ hk hf ih=>exact ih.step hk hf
def stk (l:List DT) (st:List Int):Prop:=¬ endP l st/\∀ k,k < l.length->¬ frP l st k
noncomputable def cntS (l:List DT) (s:List Int):Nat:=@dite Nat (∃ S:List (List Int),S.Nodup/\∀ t,t ∈ S ↔ Rea l s t) (Classical.propDecidable _) (fun h=>(Classical.choose h).length) fun _=>0
theorem cntS_eq {l:List DT} {s:List Int} {S:List (List Int)} (h1:S.Nodup) (h2:∀ t,t ∈ S ↔ Rea l s t):S.length=cntS l s:=by
 have h:∃ S:List (List Int),S.Nodup/\∀ t,t ∈ S ↔ Rea l s t:=⟨S,h1,h2⟩
 unfold cntS
 rw [dif_pos h]
 obtain ⟨g1,g2⟩:=Classical.choose_spec h
 exact nodup_same h1 g1 fun t=>(h2 t).trans (g2 t).symm
noncomputable def cntD (l:List DT) (s:List Int):Nat:=@dite Nat (∃ S:List (List Int),S.Nodup/\∀ t,t ∈ S ↔ Rea l s t) (Classical.propDecidable _) (fun h=>((Classical.choose h).filter fun t=>bdec (stk l t)).length) fun _=>0
theorem cntD_eq {l:List DT} {s:List Int} {S:List (List Int)} (h1:S.Nodup) (h2:∀ t,t ∈ S ↔ Rea l s t):(S.filter fun t=>bdec (stk l t)).length=cntD l s:=by
 have h:∃ S:List (List Int),S.Nodup/\∀ t,t ∈ S ↔ Rea l s t:=⟨S,h1,h2⟩
 unfold cntD
 rw [dif_pos h]
 obtain ⟨g1,g2⟩:=Classical.choose_spec h
 refine nodup_same (h1.filter _) (g1.filter _) fun t=>?_
 rw [List.mem_filter,List.mem_filter,h2,g2]
end Go.Proofs.YtbnkojgcbmfloaaGreat.DW

namespace Go.Proofs.YtbnkojgcbmfloaaGreat.DW
open Go.RowKit
abbrev st0 (l:List DT):List Int:=List.replicate l.length 0
theorem s3_zero (l:List DT):s3 (st0 l)=((0:Int),(0:Int),(0:Int)):=by
 have:∀ i,ni (st0 l) i=0:=fun i=>by
  by_cases h:i < (st0 l).length
  ·rw [ni_lt h]; simp
  ·exact ni_ge (by omega)
 unfold s3
 rw [this,this,this]
def idxS:List (List Int)->List Int->Nat->Int
 | [],_,_=>-1
 | x :: S,t,n=>if x=t then (n:Int) else idxS S t (n+1)
theorem idxS_in:∀ {S:List (List Int)} {t:List Int} {n i:Nat},S[i]? = some t->(∀ j,j < i->S[j]? ≠ some t)->idxS S t n=(n+i:Nat)
 | [],t,n,i,h,_=>by simp at h
 | x :: S,t,n,0,h,_=>by
  simp at h; subst h
  unfold idxS; rw [if_pos rfl]; rfl
 | x :: S,t,n,i+1,h,hm=>by
  have h0:=hm 0 (by omega)
  have hne:x ≠ t:=fun e=>h0 (by simp [e])
  unfold idxS
  rw [if_neg hne,idxS_in (i:=i) (by simpa using h) fun j hj=>by have:=hm (j+1) (by omega); simpa using this]
  omega
theorem first_ex {S:List (List Int)} {t:List Int} (h:t ∈ S):∃ i:Nat,S[i]? = some t/\∀ j,j < i->S[j]? ≠ some t:=by
 induction S with
 | nil=>cases h
 | cons x S ih =>
  by_cases e:x=t
  ·exact ⟨0,by simp [e],fun j hj=>absurd hj (Nat.not_lt_zero _)⟩
  ·rcases List.mem_cons.1 h with h|h
   ·exact absurd h.symm e
   ·obtain ⟨i,h1,h2⟩:=ih h
    refine ⟨i+1,by simpa using h1,fun j hj=>?_⟩
    cases j with
    | zero=>simp [e]
    | succ j=>have:=h2 j (by omega); simpa using this
noncomputable def rowS (l:List DT) (st:List Int) (S:List (List Int)):Nat->List (List Int) × List Int
 | 0=>(S,[])
 | k+1=>bif bdec (frP l st k) then
   (if adv st k ∈ (rowS l st S k).1 then ((rowS l st S k).1,(rowS l st S k).2++[idxS (rowS l st S k).1 (adv st k) 0])
    else ((rowS l st S k).1++[adv st k],(rowS l st S k).2++[((rowS l st S k).1.length:Int)]))
  else ((rowS l st S k).1,(rowS l st S k).2++[-1])
noncomputable def grS (l:List DT) (s0:List Int):Nat->List (List Int) × List (List Int)
 | 0=>([s0],[])
 | i+1=>match (grS l s0 i).1[i]? with
  | some st=>((rowS l st (grS l s0 i).1 l.length).1,(grS l s0 i).2++[(rowS l st (grS l s0 i).1 l.length).2])
  | none=>grS l s0 i
theorem rowS_f {l:List DT} {st:List Int} {S S':List (List Int)} {row:List Int} {k:Nat} (h:rowS l st S k=(S',row)) (hf:¬ frP l st k):rowS l st S (k+1)=(S',row++[-1]):=by
 rw [rowS,bdec_f hf,h]; rfl
theorem rowS_i {l:List DT} {st:List Int} {S S':List (List Int)} {row:List Int} {k i:Nat} (h:rowS l st S k=(S',row)) (hf:frP l st k) (hi:S'[i]? = some (adv st k)) (hm:∀ j,j < i->S'[j]? ≠ some (adv st k)):rowS l st S (k+1)=(S',row++[(i:Int)]):=by
 rw [rowS,bdec_t hf,h]
 show (if adv st k ∈ S' then (S',row++[idxS S' (adv st k) 0]) else (S'++[adv st k],row++[(S'.length:Int)]))=_
 rw [if_pos (List.mem_of_getElem? hi),idxS_in hi hm,Nat.zero_add]
theorem rowS_n {l:List DT} {st:List Int} {S S':List (List Int)} {row:List Int} {k:Nat} (h:rowS l st S k=(S',row)) (hf:frP l st k) (hn:adv st k ∉ S'):rowS l st S (k+1)=(S'++[adv st k],row++[(S'.length:Int)]):=by
 rw [rowS,bdec_t hf,h]
 show (if adv st k ∈ S' then (S',row++[idxS S' (adv st k) 0]) else (S'++[adv st k],row++[(S'.length:Int)]))=_
 rw [if_neg hn]
theorem grS_s {l:List DT} {s0 st:List Int} {S N S':List (List Int)} {row:List Int} {i:Nat} (h:grS l s0 i=(S,N)) (hst:S[i]? = some st) (hr:rowS l st S l.length=(S',row)):grS l s0 (i+1)=(S',N++[row]):=by
 rw [grS,h]
 simp only
 rw [hst]
 simp only
 rw [hr]
theorem grS_e {l:List DT} {s0:List Int} {S N:List (List Int)} {i:Nat} (h:grS l s0 i=(S,N)) (hi:S.length=i):∀ j,i<=j->grS l s0 j=(S,N)
 | 0,hj=>by
  obtain rfl:i=0:=by omega
  exact h
 | j+1,hj=>by
  by_cases e:i=j+1
  ·rw [<-e]; exact h
  ·have ih:=grS_e h hi j (by omega)
   rw [grS,ih]
   simp only
   rw [List.getElem?_eq_none (by omega)]
structure RoI (l:List DT) (s0:List Int) (S N:List (List Int)) (st row:List Int):Prop where
 g:GrI l s0 S N
 cur:S[N.length]? = some st
 le:row.length<=l.length
 row:RowK l S st row
theorem RoI.start {l:List DT} {s0:List Int} {S N:List (List Int)} {st:List Int} (h:GrI l s0 S N) (hst:S[N.length]? = some st):RoI l s0 S N st []:=⟨h,hst,Nat.zero_le _,fun k hk=>by simp at hk⟩
theorem RoI.f {l:List DT} {s0:List Int} {S N:List (List Int)} {st row:List Int} (h:RoI l s0 S N st row) (hl:row.length < l.length) (hf:¬ frP l st row.length):RoI l s0 S N st (row++[-1]) :=
 ⟨h.g,h.cur,by simp; omega,h.row.snoc ⟨fun h'=>absurd h' hf,fun _=>rfl⟩⟩
theorem RoI.i {l:List DT} {s0:List Int} {S N:List (List Int)} {st row:List Int} (h:RoI l s0 S N st row) (hl:row.length < l.length) (hf:frP l st row.length) {i:Nat} (hi:S[i]? = some (adv st row.length)):RoI l s0 S N st (row++[(i:Int)]) :=
 ⟨h.g,h.cur,by simp; omega,h.row.snoc ⟨fun _=>⟨by omega,by rw [Int.toNat_natCast]; exact hi⟩,fun h'=>absurd hf h'⟩⟩
theorem RoI.n {l:List DT} {s0:List Int} {S N:List (List Int)} {st row:List Int} (h:RoI l s0 S N st row) (hl:row.length < l.length) (hf:frP l st row.length) (hn:adv st row.length ∉ S):RoI l s0 (S++[adv st row.length]) N st (row++[(S.length:Int)]):=by
 refine ⟨h.g.push h.cur hl hf hn,?_,by simp; omega,h.row.more.snoc ⟨fun _=>⟨by omega,?_⟩,fun h'=>absurd hf h'⟩⟩
 ·rw [List.getElem?_append_left (List.getElem?_eq_some_iff.1 h.cur).1]; exact h.cur
 ·rw [Int.toNat_natCast,List.getElem?_append_right (Nat.le_refl _)]; simp
theorem RoI.fin {l:List DT} {s0:List Int} {S N:List (List Int)} {st row:List Int} (h:RoI l s0 S N st row) (hl:row.length=l.length):GrI l s0 S (N++[row]):=h.g.next h.cur hl h.row
noncomputable def finS (l:List DT) (S:List (List Int)):List Bool:=S.map fun st=>bdec (canP l st)
noncomputable def acS (l:List DT) (st:List Int) (k:Nat):Bool:=bdec (endP l st\/∃ j,j < k/\frP l st j/\canP l (adv st j))
theorem acS_0 {l:List DT} {st:List Int}:acS l st 0=bdec (endP l st):=bdec_i ⟨fun h=>h.elim id fun ⟨j,hj,_⟩=>absurd hj (Nat.not_lt_zero _),.inl⟩
theorem acS_f {l:List DT} {st:List Int} {k:Nat} (hf:¬ frP l st k):acS l st (k+1)=acS l st k:=bdec_i ⟨fun h=>h.imp id fun ⟨j,hj,h1,h2⟩=>⟨j,by
  by_cases e:j=k
  ·subst e; exact absurd h1 hf
  ·omega,h1,h2⟩,fun h=>h.imp id fun ⟨j,hj,h⟩=>⟨j,by omega,h⟩⟩
theorem acS_t {l:List DT} {st:List Int} {k:Nat} (hf:frP l st k):acS l st (k+1)=(acS l st k || bdec (canP l (adv st k))):=by
 by_cases h1:endP l st\/∃ j,j < k/\frP l st j/\canP l (adv st j)
 ·rw [show acS l st k=true from bdec_t h1,show acS l st (k+1)=true from bdec_t (h1.imp id fun ⟨j,hj,h⟩=>⟨j,by omega,h⟩)]; rfl
 ·rw [show acS l st k=false from bdec_f h1,Bool.false_or]
  refine bdec_i ⟨fun h=>?_,fun h=>.inr ⟨k,by omega,hf,h⟩⟩
  rcases h with h|⟨j,hj,h2,h3⟩
  ·exact absurd (.inl h) h1
  ·by_cases e:j=k
   ·subst e; exact h3
   ·exact absurd (.inr ⟨j,by omega,h2,h3⟩) h1
theorem acS_end {l:List DT} {st:List Int}:acS l st l.length=bdec (canP l st):=bdec_i ⟨fun h=>h.elim canP_end fun ⟨j,hj,h1,h2⟩=>canP_step hj h1 h2,canP_inv⟩
set_option maxHeartbeats 4000000 in
theorem l19Ints_fn (a b:List Int):Fn Tryz.prog 126 [⟨tInts,a⟩,⟨tInts,b⟩] false [⟨.bool,decide (a=b)⟩]:=by
 by_cases h0:(a.length:Int)=b.length
 ·have d0:=decide_eq_true h0
  refine fe Tryz.func126 Tryz.ntmps126 Tryz.results126 fun hwf=>?_
  have hla:a.length<=9223372036854775807:=(hwf ⟨tInts,a⟩ (by simp)).1
  try simp (maxSteps:=9^9) only[go_sem,d0]
  repeat refine AI ?_
  refine LoopG.intro _ _ _ (fun i:Nat=>⟨[(1,.sl .int b),(12,.sl .int a),(13,.sc (.int .i64 a.length)),(14,.sc (.int .i64 i))],[]⟩) (fun i=>i<=a.length/\∀ j,j < i->ni a j=ni b j) (fun i=>a.length - i) 0 ?_ ⟨Nat.zero_le _,fun j h=>absurd h (Nat.not_lt_zero _)⟩ ?_
  ·exact WK
  ·rintro i ⟨hi,hall⟩
   try simp (maxSteps:=9^9) only[go_sem]
   refine CondW_dec (fun hA=>?_) (fun hA=>?_)
   ·have hlt:i < a.length:=by omega
    by_cases hv:ni a i=ni b i
    ·have d1:=decide_eq_true hv
     try simp (maxSteps:=9^9) only[go_sem]
     repeat refine AI ?_
     try simp (maxSteps:=9^9) only[go_sem,d1]
     repeat refine AI ?_
     refine LoopK.mk (i+1) ?_ ⟨by omega,fun j hj=>?_⟩ (by omega)
     ·exact WK
     ·by_cases h:j < i
      ·exact hall j h
      ·rw [show j=i by omega]; exact hv
    ·have d1:=decide_eq_false hv
     rw [decide_eq_false fun e:a=b=>hv (by rw [e])]
     try simp (maxSteps:=9^9) only[go_sem]
     repeat refine AI ?_
     try simp (maxSteps:=9^9) only[go_sem,d1]
     all_goals repeat refine AI ?_
     all_goals first|kernel_rfl|omega|rfl
   ·rw [decide_eq_true (show a=b from List.ext_getElem (by omega) fun i h1 h2=>by have:=hall i (by omega); rw [ni_lt h1,ni_lt h2] at this; exact this)]
    try simp (maxSteps:=9^9) only[go_sem]
    all_goals repeat refine AI ?_
    all_goals first|kernel_rfl|omega|rfl
 ·have d0:=decide_eq_false h0
  rw [decide_eq_false fun e:a=b=>h0 (by rw [e])]
  refine fe Tryz.func126 Tryz.ntmps126 Tryz.results126 fun hwf=>?_
  try simp (maxSteps:=9^9) only[go_sem,d0]
  all_goals repeat refine AI ?_
  all_goals first|kernel_rfl|omega|rfl
set_option maxHeartbeats 4000000 in
theorem l28Find_in (S:List (List Int)) (t:List Int) (i:Nat) (h:S[i]? = some t) (hm:∀ j,j < i->S[j]? ≠ some t):Fn Tryz.prog 87 [⟨.slice tInts,S⟩,⟨tInts,t⟩] false [⟨.int,(i:Int)⟩]:=by
 have hi:i < S.length:=(List.getElem?_eq_some_iff.1 h).1
 refine fe Tryz.func87 Tryz.ntmps87 Tryz.results87 fun hwf=>?_
 have hla:S.length<=9223372036854775807:=(hwf ⟨.slice tInts,S⟩ (by simp)).1
 try simp (maxSteps:=9^9) only[go_sem]
 repeat refine AI ?_
 refine LoopG.intro _ _ _ (fun j:Nat=>⟨[(1,.sl .int t),(7,.sl tInts S),(8,.sc (.int .i64 S.length)),(9,.sc (.int .i64 j))],[]⟩) (fun j=>j<=i) (fun j=>i - j) 0 ?_ (Nat.zero_le _) ?_
 ·exact WK
 ·rintro j hj
  try simp (maxSteps:=9^9) only[go_sem]
  refine CondW_dec (fun hA=>?_) (fun hA=>absurd (by omega) hA)
  have c1:=l19Ints_fn (nth (t:=tInts) S j) t
  by_cases e:j=i
  ·subst e
   rw [decide_eq_true (show nth (t:=tInts) S j=t by rw [nth_lt hi]; exact (List.getElem?_eq_some_iff.1 h).2)] at c1
   try simp (maxSteps:=9^9) only[go_sem]
   repeat refine AI ?_
   repeat refine AI ?_
   refine cw c1 ?_
   try simp (maxSteps:=9^9) only[go_sem]
   all_goals repeat refine AI ?_
   all_goals first|kernel_rfl|omega|rfl
  ·have hj':j < S.length:=by omega
   rw [decide_eq_false (fun e':nth (t:=tInts) S j=t=>hm j (by omega) (by rw [nth_lt hj'] at e'; rw [List.getElem?_eq_getElem hj']; exact congrArg some e'))] at c1
   try simp (maxSteps:=9^9) only[go_sem]
   repeat refine AI ?_
   repeat refine AI ?_
   refine cw c1 ?_
   try simp (maxSteps:=9^9) only[go_sem]
   repeat refine AI ?_
   refine LoopK.mk (j+1) ?_ (by omega) (by omega)
   exact WK
set_option maxHeartbeats 4000000 in
theorem l28Find_no (S:List (List Int)) (t:List Int) (h:t ∉ S):Fn Tryz.prog 87 [⟨.slice tInts,S⟩,⟨tInts,t⟩] false [⟨.int,-1⟩]:=by
 refine fe Tryz.func87 Tryz.ntmps87 Tryz.results87 fun hwf=>?_
 have hla:S.length<=9223372036854775807:=(hwf ⟨.slice tInts,S⟩ (by simp)).1
 try simp (maxSteps:=9^9) only[go_sem]
 repeat refine AI ?_
 refine LoopG.intro _ _ _ (fun j:Nat=>⟨[(1,.sl .int t),(7,.sl tInts S),(8,.sc (.int .i64 S.length)),(9,.sc (.int .i64 j))],[]⟩) (fun j=>j<=S.length) (fun j=>S.length - j) 0 ?_ (Nat.zero_le _) ?_
 ·exact WK
 ·rintro j hj
  try simp (maxSteps:=9^9) only[go_sem]
  refine CondW_dec (fun hA=>?_) (fun hA=>?_)
  ·have c1:=l19Ints_fn (nth (t:=tInts) S j) t
   have hj':j < S.length:=by omega
   rw [decide_eq_false (fun e':nth (t:=tInts) S j=t=>h (by rw [nth_lt hj'] at e'; exact e' ▸ List.getElem_mem hj'))] at c1
   try simp (maxSteps:=9^9) only[go_sem]
   repeat refine AI ?_
   repeat refine AI ?_
   refine cw c1 ?_
   try simp (maxSteps:=9^9) only[go_sem]
   repeat refine AI ?_
   refine LoopK.mk (j+1) ?_ (by omega) (by omega)
   exact WK
  ·try simp (maxSteps:=9^9) only[go_sem]
   all_goals repeat refine AI ?_
   all_goals first|kernel_rfl|omega|rfl
attribute [go_sem] Tryz.underlying94 Tryz.underlying97
@[go_sem] theorem bts_intS:bts Tryz.prog 26=some 24:=by kernel_rfl
theorem nthI {S:List (List Int)} {i:Nat} {st:List Int} (h:S[i]? = some st):nth (t:=tInts) S i=st:=by
 obtain ⟨h1,h2⟩:=List.getElem?_eq_some_iff.1 h
 rw [nth_lt h1]; exact h2
theorem fin_set {l:List DT} {S:List (List Int)} {F:List Bool} {m:Nat} {st:List Int} (hF:F.length=S.length) (hst:S[m]? = some st) (hall:∀ (j:Nat) (st:List Int),m+1<=j->S[j]? = some st->F[j]? = some (bdec (canP l st))):∀ (j:Nat) (st':List Int),m<=j->S[j]? = some st'->(F.set m (bdec (canP l st)))[j]? = some (bdec (canP l st')):=by
 intro j st' hj hst'
 have hm:m < F.length:=by rw [hF]; exact (List.getElem?_eq_some_iff.1 hst).1
 by_cases e:m=j
 ·subst e
  rw [hst] at hst'
  injection hst' with hst'
  subst hst'
  rw [List.getElem?_set_self hm]
 ·rw [List.getElem?_set_ne e]
  exact hall j st' (by omega) hst'
theorem fin_all {l:List DT} {S:List (List Int)} {F:List Bool} (hF:F.length=S.length) (hall:∀ (j:Nat) (st:List Int),0<=j->S[j]? = some st->F[j]? = some (bdec (canP l st))):finS l S=F:=by
 unfold finS
 refine List.ext_getElem? fun j=>?_
 rw [List.getElem?_map]
 by_cases hj:j < S.length
 ·have hst:S[j]? = some S[j]:=List.getElem?_eq_getElem hj
  rw [hst,hall j _ (Nat.zero_le _) hst]; rfl
 ·rw [List.getElem?_eq_none (by omega),List.getElem?_eq_none (by omega)]; rfl
set_option maxHeartbeats 4000000 in
theorem l28Build_fn (l:List DT) (h:1<=l.length/\l.length<=3) (har:arP l) (s0:List Int) (hs:stP l s0):Fn Tryz.prog 52 [⟨.slice tTour,l⟩,⟨tInts,s0⟩] false [⟨.ext .ref tGraph,some ((grS l s0 730).1,((grS l s0 730).2,finS l (grS l s0 730).1))⟩]:=by
 have hlen:s0.length<=3:=by rw [hs.1]; exact h.2
 refine fnP_enter tabOK mixes Tryz.func52 rfl rfl _ Tryz.ntmps52 _ Tryz.results52 (by simp) fun hwf=>?_
 try simp (maxSteps:=9^9) only[go_sem]
 repeat refine AI ?_
 refine LoopG.intro _ _ _ (fun y:Nat × List (List Int) × List (List Int)=>match y.1 with
  | 0=>⟨[(0,.sl tTour l),(5,.ptr 2 0),(6,.sc (.int .i64 0))],[(2,.box [.row 1 0,.sc (.slice none 0 0),.sc (.slice none 0 0)]),(1,.row 26 tInts 0 true y.2.1)]⟩
  | i+1=>⟨[(0,.sl tTour l),(5,.ptr 2 0),(6,.sc (.int .i64 ((i+1:Nat):Int)))],[(2,.box [.row 1 0,.row 3 0,.sc (.slice none 0 0)]),(1,.row 26 tInts 0 true y.2.1),(3,.row 26 tInts 0 true y.2.2)]⟩) (fun y=>grS l s0 y.1=y.2/\GrI l s0 y.2.1 y.2.2/\y.2.2.length=y.1) (fun y=>730 - y.1) (0,[s0],[]) ?_ ⟨rfl,.one hs,rfl⟩ ?_
 ·exact WK
 ·rintro ⟨i,S,N⟩ ⟨hy,hI,hN⟩
  dsimp only at hy hI hN
  have hS:=vals_le har h.2 hI.g.nd fun t ht=>(hI.g.va t ht).1
  have hNS:=hI.len
  cases i with
  | zero =>
   obtain rfl:N=[]:=List.eq_nil_of_length_eq_zero hN
   dsimp only
   try simp (maxSteps:=9^9) only[go_sem]
   refine CondW_dec (fun hA=>?_) (fun hA=>?_)
   ·have hiS:0 < S.length:=by omega
    obtain ⟨st,hst⟩:∃ st,S[0]? = some st:=⟨_,List.getElem?_eq_getElem hiS⟩
    have hstv:=(hI.g.va st (List.mem_of_getElem? hst)).1
    have hsl:=hstv.1
    try simp (maxSteps:=9^9) only[go_sem]
    refine LoopG.intro _ _ _ (fun y:List (List Int) × List Int=>⟨[(0,.sl tTour l),(5,.ptr 2 0),(6,.sc (.int .i64 0)),(7,.row 3 0),(31,.sc (.int .i64 l.length)),(32,.sc (.int .i64 y.2.length))],[(2,.box [.row 1 0,.sc (.slice none 0 0),.sc (.slice none 0 0)]),(1,.row 26 tInts 0 true y.1),(3,.row 3 .int 0 true y.2)]⟩) (fun y=>rowS l st S y.2.length=y/\RoI l s0 y.1 [] st y.2) (fun y=>l.length - y.2.length) (S,[]) ?_ ⟨rfl,.start hI (by rw [hN]; exact hst)⟩ ?_
    ·exact WK
    ·rintro ⟨T,row⟩ ⟨hr,hR⟩
     dsimp only at hr hR
     have hT:=vals_le har h.2 hR.g.g.nd fun t ht=>(hR.g.g.va t ht).1
     try simp (maxSteps:=9^9) only[go_sem]
     refine CondW_dec (fun hB=>?_) (fun hB=>?_)
     ·have hlt:row.length < l.length:=by omega
      have c1:=l28Free_fn l st row.length har hstv hlt
      have hcur:=hR.cur
      have hTi:0 < T.length:=by rw [<-hN]; exact (List.getElem?_eq_some_iff.1 hcur).1
      have hnt:nth (t:=tInts) T (0)=st:=nthI (by rw [<-hN]; exact hcur)
      by_cases hf:frP l st row.length
      ·rw [bdec_t hf] at c1
       have hni:=ni_8 har hstv row.length
       have hb1:(row.length+1) * 8<=140737488355328:=by omega
       have hb2:row.length<=9223372036854775806:=by omega
       have hks:row.length < st.length:=by omega
       try simp (maxSteps:=9^9) only[go_sem,hnt]
       repeat refine AI ?_
       refine cw c1 ?_
       try simp (maxSteps:=9^9) only[go_sem,hnt]
       repeat refine AI ?_
       by_cases hin:adv st row.length ∈ T
       ·obtain ⟨m,hm1,hm2⟩:=first_ex hin
        have c2:=l28Find_in T (adv st row.length) m hm1 hm2
        have hr':=rowS_i hr hf hm1 hm2
        have hR':=hR.i hlt hf hm1
        have hml:=(List.getElem?_eq_some_iff.1 hm1).1
        refine cw c2 ?_
        unfold adv
        try simp (maxSteps:=9^9) only[go_sem]
        repeat refine AI ?_
        refine CondW_dec (fun hC=>by omega) (fun hC=>?_)
        try simp (maxSteps:=9^9) only[go_sem]
        refine ⟨hb1,hb2,?_⟩
        repeat refine AI ?_
        refine LoopK.mk (T,row++[(m:Int)]) ?_ ⟨by dsimp only; rw [List.length_append]; exact hr',hR'⟩ (by dsimp only; rw [List.length_append,List.length_singleton]; omega)
        exact WK
       ·have c2:=l28Find_no T (adv st row.length) hin
        have hr':=rowS_n hr hf hin
        have hR':=hR.n hlt hf hin
        refine cw c2 ?_
        unfold adv
        try simp (maxSteps:=9^9) only[go_sem]
        repeat refine AI ?_
        refine LoopK.mk (T++[adv st row.length],row++[(T.length:Int)]) ?_ ⟨by dsimp only; rw [List.length_append]; exact hr',hR'⟩ (by dsimp only; rw [List.length_append,List.length_singleton]; omega)
        unfold adv
        exact WK
      ·rw [bdec_f hf] at c1
       have hr':=rowS_f hr hf
       have hR':=hR.f hlt hf
       have hb1:(row.length+1) * 8<=140737488355328:=by omega
       have hb2:row.length<=9223372036854775806:=by omega
       try simp (maxSteps:=9^9) only[go_sem,hnt]
       repeat refine AI ?_
       refine cw c1 ?_
       try simp (maxSteps:=9^9) only[go_sem,hnt]
       refine ⟨hb1,hb2,?_⟩
       repeat refine AI ?_
       refine LoopK.mk (T,row++[(-1:Int)]) ?_ ⟨by dsimp only; rw [List.length_append]; exact hr',hR'⟩ (by dsimp only; rw [List.length_append,List.length_singleton]; omega)
       exact WK
     ·have hrl:row.length=l.length:=by have:=hR.le; omega
      have hfin:=hR.fin hrl
      have hgs:grS l s0 (0+1)=(T,[]++[row]):=grS_s hy (by exact hst) (by rw [hrl] at hr; exact hr)
      have hb3:(([]:List (List Int)).length+1) * 24<=140737488355328:=by omega
      have hb4:([]:List (List Int)).length<=9223372036854775806:=by omega
      try simp (maxSteps:=9^9) only[go_sem]
      repeat refine AI ?_
      refine LoopK.mk (0+1,T,[]++[row]) ?_ ⟨hgs,hfin,by dsimp only; rw [List.length_append,hN]; rfl⟩ (by dsimp only; omega)
      refine Wk.mk [(3,5)] ?_
      try simp (maxSteps:=9^9) only[go_sem]
      try (and_intros<;>first|rfl|omega|exact ⟨_,rfl⟩)
   ·exact absurd hI.g.ne (by rw [List.getElem?_eq_none (by omega)]; simp)
  | succ i =>
   dsimp only
   try simp (maxSteps:=9^9) only[go_sem]
   refine CondW_dec (fun hA=>?_) (fun hA=>?_)
   ·have hiS:i+1 < S.length:=by omega
    obtain ⟨st,hst⟩:∃ st,S[i+1]? = some st:=⟨_,List.getElem?_eq_getElem hiS⟩
    have hstv:=(hI.g.va st (List.mem_of_getElem? hst)).1
    have hsl:=hstv.1
    try simp (maxSteps:=9^9) only[go_sem]
    refine LoopG.intro _ _ _ (fun y:List (List Int) × List Int=>⟨[(0,.sl tTour l),(5,.ptr 2 0),(6,.sc (.int .i64 ((i+1:Nat):Int))),(7,.row 4 0),(31,.sc (.int .i64 l.length)),(32,.sc (.int .i64 y.2.length))],[(2,.box [.row 1 0,.row 3 0,.sc (.slice none 0 0)]),(1,.row 26 tInts 0 true y.1),(3,.row 26 tInts 0 true N),(4,.row 3 .int 0 true y.2)]⟩) (fun y=>rowS l st S y.2.length=y/\RoI l s0 y.1 N st y.2) (fun y=>l.length - y.2.length) (S,[]) ?_ ⟨rfl,.start hI (by rw [hN]; exact hst)⟩ ?_
    ·exact WK
    ·rintro ⟨T,row⟩ ⟨hr,hR⟩
     dsimp only at hr hR
     have hT:=vals_le har h.2 hR.g.g.nd fun t ht=>(hR.g.g.va t ht).1
     try simp (maxSteps:=9^9) only[go_sem]
     refine CondW_dec (fun hB=>?_) (fun hB=>?_)
     ·have hlt:row.length < l.length:=by omega
      have c1:=l28Free_fn l st row.length har hstv hlt
      have hcur:=hR.cur
      have hTi:i+1 < T.length:=by rw [<-hN]; exact (List.getElem?_eq_some_iff.1 hcur).1
      have hnt:nth (t:=tInts) T (i+1)=st:=nthI (by rw [<-hN]; exact hcur)
      by_cases hf:frP l st row.length
      ·rw [bdec_t hf] at c1
       have hni:=ni_8 har hstv row.length
       have hb1:(row.length+1) * 8<=140737488355328:=by omega
       have hb2:row.length<=9223372036854775806:=by omega
       have hks:row.length < st.length:=by omega
       try simp (maxSteps:=9^9) only[go_sem,hnt]
       repeat refine AI ?_
       refine cw c1 ?_
       try simp (maxSteps:=9^9) only[go_sem,hnt]
       repeat refine AI ?_
       by_cases hin:adv st row.length ∈ T
       ·obtain ⟨m,hm1,hm2⟩:=first_ex hin
        have c2:=l28Find_in T (adv st row.length) m hm1 hm2
        have hr':=rowS_i hr hf hm1 hm2
        have hR':=hR.i hlt hf hm1
        have hml:=(List.getElem?_eq_some_iff.1 hm1).1
        refine cw c2 ?_
        unfold adv
        try simp (maxSteps:=9^9) only[go_sem]
        repeat refine AI ?_
        refine CondW_dec (fun hC=>by omega) (fun hC=>?_)
        try simp (maxSteps:=9^9) only[go_sem]
        refine ⟨hb1,hb2,?_⟩
        repeat refine AI ?_
        refine LoopK.mk (T,row++[(m:Int)]) ?_ ⟨by dsimp only; rw [List.length_append]; exact hr',hR'⟩ (by dsimp only; rw [List.length_append,List.length_singleton]; omega)
        exact WK
       ·have c2:=l28Find_no T (adv st row.length) hin
        have hr':=rowS_n hr hf hin
        have hR':=hR.n hlt hf hin
        refine cw c2 ?_
        unfold adv
        try simp (maxSteps:=9^9) only[go_sem]
        repeat refine AI ?_
        refine LoopK.mk (T++[adv st row.length],row++[(T.length:Int)]) ?_ ⟨by dsimp only; rw [List.length_append]; exact hr',hR'⟩ (by dsimp only; rw [List.length_append,List.length_singleton]; omega)
        unfold adv
        exact WK
      ·rw [bdec_f hf] at c1
       have hr':=rowS_f hr hf
       have hR':=hR.f hlt hf
       have hb1:(row.length+1) * 8<=140737488355328:=by omega
       have hb2:row.length<=9223372036854775806:=by omega
       try simp (maxSteps:=9^9) only[go_sem,hnt]
       repeat refine AI ?_
       refine cw c1 ?_
       try simp (maxSteps:=9^9) only[go_sem,hnt]
       refine ⟨hb1,hb2,?_⟩
       repeat refine AI ?_
       refine LoopK.mk (T,row++[(-1:Int)]) ?_ ⟨by dsimp only; rw [List.length_append]; exact hr',hR'⟩ (by dsimp only; rw [List.length_append,List.length_singleton]; omega)
       exact WK
     ·have hrl:row.length=l.length:=by have:=hR.le; omega
      have hfin:=hR.fin hrl
      have hgs:grS l s0 (i+1+1)=(T,N++[row]):=grS_s hy (by exact hst) (by rw [hrl] at hr; exact hr)
      have hb3:(N.length+1) * 24<=140737488355328:=by omega
      have hb4:N.length<=9223372036854775806:=by omega
      try simp (maxSteps:=9^9) only[go_sem]
      repeat refine AI ?_
      refine LoopK.mk (i+1+1,T,N++[row]) ?_ ⟨hgs,hfin,by dsimp only; rw [List.length_append,hN]; rfl⟩ (by dsimp only; omega)
      exact WK
   ·have hSi:S.length=i+1:=by omega
    have hall:=grS_e hy hSi 730 (by omega)
    rw [hall]
    dsimp only
    try simp (maxSteps:=9^9) only[go_sem]
    repeat refine AI ?_
    refine LoopG.intro _ _ _ (fun y:Nat × List Bool=>⟨[(0,.sl tTour l),(5,.ptr 2 0),(11,.sc (.int .i64 ((y.1:Int) - 1)))],[(2,.box [.row 1 0,.row 3 0,.row 4 0]),(1,.row 26 tInts 0 true S),(3,.row 26 tInts 0 true N),(4,.row 4 .bool 0 true y.2)]⟩) (fun y=>y.1<=S.length/\y.2.length=S.length/\∀ (j:Nat) (st:List Int),y.1<=j->S[j]? = some st->y.2[j]? = some (bdec (canP l st))) (fun y=>y.1) (S.length,List.replicate S.length false) ?_ ⟨Nat.le_refl _,List.length_replicate,fun j st hj hst=>by rw [List.getElem?_eq_none hj] at hst; cases hst⟩ ?_
    ·exact WK
    ·rintro ⟨d,F⟩ ⟨hd,hF,hall⟩
     dsimp only at hd hF hall
     try simp (maxSteps:=9^9) only[go_sem]
     refine CondW_dec (fun hB=>?_) (fun hB=>?_)
     ·obtain ⟨m,rfl⟩:∃ m,d=m+1:=⟨d - 1,by omega⟩
      have em:((m+1:Nat):Int) - 1=(m:Int):=by omega
      have hmS:m < S.length:=by omega
      have hmN:m < N.length:=by omega
      have hmF:m < F.length:=by omega
      have hst:S[m]? = some S[m]:=List.getElem?_eq_getElem hmS
      generalize S[m]=st at hst
      have hnst:N[m]? = some N[m]:=List.getElem?_eq_getElem hmN
      generalize N[m]=row at hnst
      have hstv:=(hI.g.va st (List.mem_of_getElem? hst)).1
      have hS1:nth (t:=tInts) S m=st:=nthI hst
      have hN1:nth (t:=tInts) N m=row:=nthI hnst
      obtain ⟨hrl,hrow⟩:=hI.row m row st hnst hst
      have c1:=l28End_fn l st hstv
      try simp (maxSteps:=9^9) only[go_sem,em,hS1]
      repeat refine AI ?_
      refine cw c1 ?_
      try simp (maxSteps:=9^9) only[go_sem,em,hS1,hN1]
      repeat refine AI ?_
      refine LoopG.intro _ _ _ (fun k:Nat=>⟨[(0,.sl tTour l),(5,.ptr 2 0),(11,.sc (.int .i64 (m:Int))),(138,.sl .int row),(139,.sc (.int .i64 row.length)),(140,.sc (.int .i64 k))],[(2,.box [.row 1 0,.row 3 0,.row 4 0]),(1,.row 26 tInts 0 true S),(3,.row 26 tInts 0 true N),(4,.row 4 .bool 0 true (F.set m (acS l st k)))]⟩) (fun k=>k<=l.length) (fun k=>l.length - k) 0 ?_ (Nat.zero_le _) ?_
      ·rw [acS_0]
       exact WK
      ·rintro k hk
       try simp (maxSteps:=9^9) only[go_sem]
       refine CondW_dec (fun hC=>?_) (fun hC=>?_)
       ·have hkl:k < l.length:=by omega
        have hkr:k < row.length:=by omega
        have hrk:=hrow k hkr
        have hset:∀ a:Bool,nth (t:=.bool) (F.set m a) m=a:=fun a=>by
         rw [nth_lt (by rw [List.length_set]; exact hmF)]; simp
        have hss:∀ a b:Bool,(F.set m a).set m b=F.set m b:=fun a b=>List.set_set ..
        have hlf:∀ a:Bool,(F.set m a).length=F.length:=fun a=>List.length_set
        cases ha:acS l st k with
        | true =>
         have hn:acS l st (k+1)=true:=by
          by_cases hf:frP l st k
          ·rw [acS_t hf,ha]; rfl
          ·rw [acS_f hf,ha]
         try simp (maxSteps:=9^9) only[go_sem,hset,hlf]
         repeat refine AI ?_
         try simp (maxSteps:=9^9) only[go_sem,hset,hlf,hss]
         repeat refine AI ?_
         refine LoopK.mk (k+1) ?_ (by omega) (by omega)
         rw [hn]
         exact WK
        | false =>
         by_cases hf:frP l st k
         ·obtain ⟨h1,h2⟩:=hrk.1 hf
          have hlat:=hI.g
          have hlm:m < (ni row k).toNat:=hI.later hst hkl h2
          have hlS:=(List.getElem?_eq_some_iff.1 h2).1
          have hlF:(ni row k).toNat < F.length:=by omega
          have hfn:nth (t:=.bool) (F.set m false) (ni row k).toNat=bdec (canP l (adv st k)):=by
           have h3:=hall (ni row k).toNat (adv st k) (by omega) h2
           obtain ⟨h4,h5⟩:=List.getElem?_eq_some_iff.1 h3
           rw [nth_lt (by rw [List.length_set]; exact hlF),List.getElem_set_ne (by omega)]; exact h5
          have hn:acS l st (k+1)=bdec (canP l (adv st k)):=by rw [acS_t hf,ha]; rfl
          have d1:=decide_eq_true h1
          try simp (maxSteps:=9^9) only[go_sem,hset,hlf,d1]
          repeat refine AI ?_
          try simp (maxSteps:=9^9) only[go_sem,hset,hlf,hss,d1,hfn]
          repeat refine AI ?_
          refine LoopK.mk (k+1) ?_ (by omega) (by omega)
          rw [hn]
          exact WK
         ·have h1:=hrk.2 hf
          have hn:acS l st (k+1)=false:=by rw [acS_f hf,ha]
          try simp (maxSteps:=9^9) only[go_sem,hset,hlf,h1]
          repeat refine AI ?_
          try simp (maxSteps:=9^9) only[go_sem,hset,hlf,hss,h1]
          repeat refine AI ?_
          refine LoopK.mk (k+1) ?_ (by omega) (by omega)
          rw [hn]
          exact WK
       ·have hkl:k=l.length:=by omega
        subst hkl
        try simp (maxSteps:=9^9) only[go_sem]
        repeat refine AI ?_
        refine LoopK.mk (m,F.set m (bdec (canP l st))) ?_ ⟨by dsimp only; omega,by dsimp only; rw [List.length_set]; exact hF,fun j st' hj hst'=>?_⟩ (by dsimp only; omega)
        ·rw [<-acS_end]
         exact WK
        ·exact fin_set hF hst hall j st' hj hst'
     ·obtain rfl:d=0:=by omega
      have hfin:finS l S=F:=fin_all hF hall
      rw [hfin]
      try simp (maxSteps:=9^9) only[go_sem]
      all_goals repeat refine AI ?_
      all_goals first|kernel_rfl|omega|rfl
theorem rowS_RoI {l:List DT} {s0 st:List Int} {S N:List (List Int)} (h:GrI l s0 S N) (hst:S[N.length]? = some st):∀ k,k<=l.length->(rowS l st S k).2.length=k/\RoI l s0 (rowS l st S k).1 N st (rowS l st S k).2:=by
 intro k
 induction k with
 | zero=>intro _; exact ⟨rfl,.start h hst⟩
 | succ k ih =>
  intro hk
  obtain ⟨h1,h2⟩:=ih (by omega)
  obtain ⟨T,row,hr⟩:∃ T row,rowS l st S k=(T,row):=⟨_,_,rfl⟩
  rw [hr] at h1 h2
  dsimp only at h1 h2
  subst h1
  by_cases hf:frP l st row.length
  ·by_cases hin:adv st row.length ∈ T
   ·obtain ⟨m,hm1,hm2⟩:=first_ex hin
    rw [rowS_i hr hf hm1 hm2]
    exact ⟨by simp,h2.i hk hf hm1⟩
   ·rw [rowS_n hr hf hin]
    exact ⟨by simp,h2.n hk hf hin⟩
  ·rw [rowS_f hr hf]
   exact ⟨by simp,h2.f hk hf⟩
theorem grS_all {l:List DT} {s0:List Int} (hs:stP l s0):∀ i,GrI l s0 (grS l s0 i).1 (grS l s0 i).2/\((grS l s0 i).2.length=i\/(grS l s0 i).2.length=(grS l s0 i).1.length)
 | 0=>⟨.one hs,.inl rfl⟩
 | i+1=>by
  obtain ⟨h1,h2⟩:=grS_all hs i
  obtain ⟨S,N,hy⟩:∃ S N,grS l s0 i=(S,N):=⟨_,_,rfl⟩
  rw [hy] at h1 h2
  dsimp only at h1 h2
  by_cases he:N.length=S.length
  ·rcases h2 with h2|h2
   ·have:=grS_e hy (by omega) (i+1) (by omega)
    rw [this]; exact ⟨h1,.inr he⟩
   ·cases hq:S[i]? with
    | none =>
     rw [grS,hy]; simp only; rw [hq]; exact ⟨h1,.inr he⟩
    | some st =>
     by_cases hi:N.length=i
     ·have:=(List.getElem?_eq_some_iff.1 hq).1; omega
     ·exfalso
      have:∀ j,(grS l s0 j).2.length<=j:=fun j=>by
       induction j with
       | zero=>exact Nat.le_refl _
       | succ j ih =>
        rw [grS]
        split
        ·simp; exact ih
        ·omega
      have hle:=this i
      rw [hy] at hle
      dsimp only at hle
      have:=(List.getElem?_eq_some_iff.1 hq).1
      omega
  ·have hi:N.length=i:=h2.resolve_right he
   have hlt:N.length < S.length:=by have:=h1.len; omega
   have hst:S[N.length]? = some S[N.length]:=List.getElem?_eq_getElem hlt
   generalize S[N.length]=st at hst
   obtain ⟨T,row,hr⟩:∃ T row,rowS l st S l.length=(T,row):=⟨_,_,rfl⟩
   obtain ⟨r1,r2⟩:=rowS_RoI h1 hst l.length (Nat.le_refl _)
   rw [hr] at r1 r2
   dsimp only at r1 r2
   rw [grS_s hy (by rw [<-hi]; exact hst) hr]
   exact ⟨r2.fin r1,.inl (by simp; exact hi)⟩
noncomputable abbrev gS (l:List DT) (s0:List Int):List (List Int):=(grS l s0 730).1
noncomputable abbrev gN (l:List DT) (s0:List Int):List (List Int):=(grS l s0 730).2
theorem gr_fin {l:List DT} (har:arP l) (h3:l.length<=3) {s0:List Int} (hs:stP l s0):GrI l s0 (gS l s0) (gN l s0)/\(gN l s0).length=(gS l s0).length:=by
 obtain ⟨h1,h2⟩:=grS_all hs 730
 have hS:=vals_le har h3 h1.g.nd fun t ht=>(h1.g.va t ht).1
 refine ⟨h1,h2.elim (fun h=>?_) id⟩
 have:=h1.len
 omega
theorem cnt_gr {l:List DT} (har:arP l) (h3:l.length<=3) {s0:List Int} (hs:stP l s0):(gS l s0).length=cntS l s0:=by
 obtain ⟨h1,h2⟩:=gr_fin har h3 hs
 exact cntS_eq h1.g.nd (h1.mem h2)
theorem cntd_gr {l:List DT} (har:arP l) (h3:l.length<=3) {s0:List Int} (hs:stP l s0):((gS l s0).filter fun t=>bdec (stk l t)).length=cntD l s0:=by
 obtain ⟨h1,h2⟩:=gr_fin har h3 hs
 exact cntD_eq h1.g.nd (h1.mem h2)
set_option maxHeartbeats 4000000 in
theorem CountStatesS_fn (l:List DT):Fn Tryz.prog 18 [⟨.slice tTour,l⟩] false [⟨.int,if arB l=true then (cntS l (st0 l):Int) else -1⟩]:=by
 have c0:=AreToursS_fn l
 cases ha:arB l<;>rw [ha] at c0
 ·rw [if_neg (by decide)]
  refine fe Tryz.func18 Tryz.ntmps18 Tryz.results18 fun hwf=>?_
  try simp (maxSteps:=9^9) only[go_sem]
  repeat refine AI ?_
  refine cw c0 ?_
  try simp (maxSteps:=9^9) only[go_sem]
  all_goals repeat refine AI ?_
  all_goals first|kernel_rfl|omega|rfl
 ·have har:=arB_p ha
  have hs0:=stP_zero l
  have c2:=l28Build_fn l har.1 har.2 (st0 l) hs0
  rw [if_pos rfl,<-cnt_gr har.2 har.1.2 hs0]
  refine fe Tryz.func18 Tryz.ntmps18 Tryz.results18 fun hwf=>?_
  try simp (maxSteps:=9^9) only[go_sem]
  repeat refine AI ?_
  refine cw c0 ?_
  try simp (maxSteps:=9^9) only[go_sem]
  repeat refine AI ?_
  repeat refine AI ?_
  refine cw c2 ?_
  try simp (maxSteps:=9^9) only[go_sem]
  all_goals repeat refine AI ?_
  all_goals first|kernel_rfl|omega|rfl
end Go.Proofs.YtbnkojgcbmfloaaGreat.DW

namespace Go.Proofs.YtbnkojgcbmfloaaGreat.DW
open Go.RowKit
noncomputable def stA (l:List DT) (st:List Int) (k:Nat):Bool:=bdec (¬ endP l st/\∀ j,j < k->¬ frP l st j)
theorem stA_0 {l:List DT} {st:List Int}:stA l st 0=!bdec (endP l st):=by
 by_cases h:endP l st
 ·rw [bdec_t h]; exact bdec_f fun g=>g.1 h
 ·rw [bdec_f h]; exact bdec_t ⟨h,fun j hj=>absurd hj (Nat.not_lt_zero _)⟩
theorem stA_s {l:List DT} {st:List Int} {k:Nat}:stA l st (k+1)=(stA l st k && !bdec (frP l st k)):=by
 by_cases h:¬ endP l st/\∀ j,j < k->¬ frP l st j
 ·rw [show stA l st k=true from bdec_t h,Bool.true_and]
  by_cases hf:frP l st k
  ·rw [bdec_t hf]; exact bdec_f fun g=>g.2 k (by omega) hf
  ·rw [bdec_f hf]; exact bdec_t ⟨h.1,fun j hj=>by
    by_cases e:j=k
    ·rw [e]; exact hf
    ·exact h.2 j (by omega)⟩
 ·rw [show stA l st k=false from bdec_f h,Bool.false_and]
  exact bdec_f fun g=>h ⟨g.1,fun j hj=>g.2 j (by omega)⟩
theorem stA_e {l:List DT} {st:List Int}:stA l st l.length=bdec (stk l st):=bdec_i Iff.rfl
theorem take_st {S:List (List Int)} {i:Nat} {st:List Int} (h:S[i]? = some st) (p:List Int->Bool):((S.take (i+1)).filter p).length=((S.take i).filter p).length+(if p st=true then 1 else 0):=by
 obtain ⟨h1,h2⟩:=List.getElem?_eq_some_iff.1 h
 rw [List.take_succ,h,List.filter_append,List.length_append]
 cases hp:p st<;>simp [hp]
set_option maxHeartbeats 4000000 in
theorem CountDeadlocksS_fn (l:List DT):Fn Tryz.prog 21 [⟨.slice tTour,l⟩] false [⟨.int,if arB l=true then (cntD l (st0 l):Int) else -1⟩]:=by
 have c0:=AreToursS_fn l
 cases ha:arB l<;>rw [ha] at c0
 ·rw [if_neg (by decide)]
  refine fe Tryz.func21 Tryz.ntmps21 Tryz.results21 fun hwf=>?_
  try simp (maxSteps:=9^9) only[go_sem]
  repeat refine AI ?_
  refine cw c0 ?_
  try simp (maxSteps:=9^9) only[go_sem]
  all_goals repeat refine AI ?_
  all_goals first|kernel_rfl|omega|rfl
 ·have har:=arB_p ha
  have hs0:=stP_zero l
  have c2:=l28Build_fn l har.1 har.2 (st0 l) hs0
  have hcd:(((grS l (st0 l) 730).1).filter fun t=>bdec (stk l t)).length=cntD l (st0 l):=cntd_gr har.2 har.1.2 hs0
  rw [if_pos rfl,<-hcd]
  have hgr:GrI l (st0 l) (grS l (st0 l) 730).1 (grS l (st0 l) 730).2/\(grS l (st0 l) 730).2.length=(grS l (st0 l) 730).1.length:=gr_fin har.2 har.1.2 hs0
  clear hcd
  generalize (grS l (st0 l) 730).1=S at hgr c2 ⊢
  generalize (grS l (st0 l) 730).2=N at hgr c2
  obtain ⟨hI,hN⟩:=hgr
  have hS:=vals_le har.2 har.1.2 hI.g.nd fun t ht=>(hI.g.va t ht).1
  refine fe Tryz.func21 Tryz.ntmps21 Tryz.results21 fun hwf=>?_
  try simp (maxSteps:=9^9) only[go_sem]
  repeat refine AI ?_
  refine cw c0 ?_
  try simp (maxSteps:=9^9) only[go_sem]
  repeat refine AI ?_
  repeat refine AI ?_
  refine cw c2 ?_
  try simp (maxSteps:=9^9) only[go_sem]
  repeat refine AI ?_
  refine LoopG.intro _ _ _ (fun i:Nat=>⟨[(0,.sl tTour l),(3,.ref tGraph (S,(N,finS l S)) 0),(4,.sc (.int .i64 ((S.take i).filter fun t=>bdec (stk l t)).length)),(21,.sl tInts N),(22,.sc (.int .i64 N.length)),(23,.sc (.int .i64 i))],[]⟩) (fun i=>i<=N.length) (fun i=>N.length - i) 0 ?_ (Nat.zero_le _) ?_
  ·exact WK
  ·rintro i hi
   try simp (maxSteps:=9^9) only[go_sem]
   refine CondW_dec (fun hA=>?_) (fun hA=>?_)
   ·have haN:i < N.length:=by omega
    have haS:i < S.length:=by omega
    have hst:S[i]? = some S[i]:=List.getElem?_eq_getElem haS
    generalize S[i]=st at hst
    have hnst:N[i]? = some N[i]:=List.getElem?_eq_getElem haN
    generalize N[i]=row at hnst
    have hS1:nth (t:=tInts) S i=st:=nthI hst
    have hN1:nth (t:=tInts) N i=row:=nthI hnst
    obtain ⟨hrl,hrow⟩:=hI.row i row st hnst hst
    have hstv:=(hI.g.va st (List.mem_of_getElem? hst)).1
    have c5:=l28End_fn l st hstv
    have hcl:((S.take i).filter fun t=>bdec (stk l t)).length<=729:=Nat.le_trans (List.length_filter_le ..) (by rw [List.length_take]; omega)
    have htk:=take_st hst fun t=>bdec (stk l t)
    try simp (maxSteps:=9^9) only[go_sem,hS1,hN1]
    repeat refine AI ?_
    refine cw c5 ?_
    try simp (maxSteps:=9^9) only[go_sem,hS1,hN1]
    repeat refine AI ?_
    refine LoopG.intro _ _ _ (fun k:Nat=>⟨[(0,.sl tTour l),(3,.ref tGraph (S,(N,finS l S)) 0),(4,.sc (.int .i64 ((S.take i).filter fun t=>bdec (stk l t)).length)),(7,.sc (.bool (stA l st k))),(21,.sl tInts N),(22,.sc (.int .i64 N.length)),(23,.sc (.int .i64 i)),(38,.sl .int row),(39,.sc (.int .i64 row.length)),(40,.sc (.int .i64 k))],[]⟩) (fun k=>k<=l.length) (fun k=>l.length - k) 0 ?_ (Nat.zero_le _) ?_
    ·rw [stA_0]
     exact WK
    ·rintro k hk
     try simp (maxSteps:=9^9) only[go_sem]
     refine CondW_dec (fun hB=>?_) (fun hB=>?_)
     ·have hkr:k < row.length:=by omega
      have hkl:k < l.length:=by omega
      have hrk:=hrow k hkr
      have hs:=stA_s (l:=l) (st:=st) (k:=k)
      cases ha':stA l st k with
      | false =>
       rw [ha',Bool.false_and] at hs
       try simp (maxSteps:=9^9) only[go_sem]
       repeat refine AI ?_
       refine LoopK.mk (k+1) ?_ (by omega) (by omega)
       rw [hs]
       exact WK
      | true =>
       rw [ha',Bool.true_and] at hs
       by_cases hf:frP l st k
       ·obtain ⟨h1,h2⟩:=hrk.1 hf
        rw [bdec_t hf] at hs
        have d1:=decide_eq_false (show ¬ ni row k < 0 by omega)
        try simp (maxSteps:=9^9) only[go_sem,d1]
        repeat refine AI ?_
        refine LoopK.mk (k+1) ?_ (by omega) (by omega)
        rw [hs]
        exact WK
       ·have h1:=hrk.2 hf
        rw [bdec_f hf] at hs
        try simp (maxSteps:=9^9) only[go_sem,h1]
        repeat refine AI ?_
        refine LoopK.mk (k+1) ?_ (by omega) (by omega)
        rw [hs]
        exact WK
     ·obtain rfl:k=l.length:=by omega
      rw [stA_e]
      cases hk':bdec (stk l st) with
      | true =>
       rw [hk',if_pos rfl] at htk
       try simp (maxSteps:=9^9) only[go_sem]
       repeat refine AI ?_
       refine LoopK.mk (i+1) ?_ (by omega) (by omega)
       rw [htk]
       exact WK
      | false =>
       rw [hk',if_neg (by decide)] at htk
       try simp (maxSteps:=9^9) only[go_sem]
       repeat refine AI ?_
       refine LoopK.mk (i+1) ?_ (by omega) (by omega)
       rw [htk]
       exact WK
   ·obtain rfl:i=N.length:=by omega
    have htl:S.take N.length=S:=by rw [hN,List.take_length]
    rw [htl]
    try simp (maxSteps:=9^9) only[go_sem]
    all_goals repeat refine AI ?_
    all_goals first|kernel_rfl|omega|rfl
attribute [go_sem] Tryz.underlying119
@[go_sem] theorem bts_state:bts Tryz.prog 68=some 24:=by kernel_rfl
def seenP (l:List DT) (L:List (List Int)) (g:Memo):Prop:=∀ st,stP l st->(st ∈ L->mlk g (s3 st)=some true)/\(st ∉ L->mlk g (s3 st)=none)
theorem seenP.start {l:List DT} (h3:l.length<=3):seenP l [st0 l] [(((0:Int),(0:Int),(0:Int)),true)]:=fun st hst=>by
 refine ⟨fun h=>?_,fun h=>?_⟩
 ·rw [List.mem_singleton.1 h,s3_zero]; rfl
 ·rw [mlk_cons,if_neg fun e=>?_]; rfl
  rw [<-s3_zero l] at e
  exact h (List.mem_singleton.2 (s3_inj h3 (stP_zero l) hst e).symm)
theorem seenP.push {l:List DT} (h3:l.length<=3) {L:List (List Int)} {g:Memo} (h:seenP l L g) {t:List Int} (ht:stP l t):seenP l (L++[t]) ((s3 t,true) :: g):=fun st hst=>by
 refine ⟨fun hm=>?_,fun hm=>?_⟩
 ·rw [mlk_cons]
  split
  ·rfl
  ·rename_i hne
   rcases List.mem_append.1 hm with hm|hm
   ·exact (h st hst).1 hm
   ·rw [List.mem_singleton.1 hm] at hne; exact absurd rfl hne
 ·rw [mlk_cons,if_neg fun e=>hm (List.mem_append.2 (.inr (List.mem_singleton.2 (s3_inj h3 ht hst e).symm)))]
  exact (h st hst).2 fun e=>hm (List.mem_append.2 (.inl e))
theorem drop_cons {S:List (List Int)} {i:Nat} {st:List Int} (h:S[i]? = some st):S.drop i=st :: S.drop (i+1):=by
 obtain ⟨h1,h2⟩:=List.getElem?_eq_some_iff.1 h
 rw [List.drop_eq_getElem_cons h1,h2]
abbrev qD (S:List (List Int)) (i:Nat):List (Int × Int × Int):=(S.drop i).map s3
theorem qD_cons {S:List (List Int)} {i:Nat} {st:List Int} (h:S[i]? = some st):qD S i=s3 st :: qD S (i+1):=by
 unfold qD; rw [drop_cons h]; rfl
theorem qD_push {S:List (List Int)} {i:Nat} {t:List Int} (h:i<=S.length):qD (S++[t]) i=qD S i++[s3 t]:=by
 unfold qD; rw [List.drop_append_of_le_length h,List.map_append]; rfl
theorem qD_len {S:List (List Int)} {i:Nat}:(qD S i).length=S.length - i:=by unfold qD; rw [List.length_map,List.length_drop]
theorem zs1 {n:Int} (h:I64 n):∀ z ∈ [Value.int .i64 n],z.oneCell'=true/\okv z:=fun z hz=>by
 rw [List.mem_singleton.1 hz]; exact ⟨rfl,h⟩
set_option maxHeartbeats 4000000 in
theorem reached_fn (l:List DT) (h:1<=l.length/\l.length<=3) (har:arP l) (fc:FuncId) (A:Nat->Ty) (xA:∀ b,(A b).den) (p:List Int->Bool)
  (hfc:∀ (st:List Int) (n:Nat),stP l st->n<=729->FnW Tryz.prog fc (fun b=>⟨tState,s3 st⟩ :: capD (A b) (xA b)) (BoxI [.int .i64 n]) (BoxI [.int .i64 ((n+(if p st=true then 1 else 0):Nat):Int)]) []) :
  FnW Tryz.prog 34 (fun b=>[⟨.ext .ref tPlanner,some (plD l)⟩,⟨.ext (.clo fc) (A b),some (xA b)⟩]) (BoxI [.int .i64 0]) (BoxI [.int .i64 (((gS l (st0 l)).filter p).length:Nat)]) []:=by
 have hs0:=stP_zero l
 have hI0:I64 0:=by constructor<;>decide
 refine fnE_enter tabOK mixes Tryz.func34 rfl rfl _ Tryz.ntmps34 _ Tryz.results34 (by rfl) (by simp) (by simp [*,okv]<;>rfl) fun b hwf=>?_
 try simp (maxSteps:=9^9) only[go_sem]
 refine LoopG.intro _ _ _ (fun y:Nat × List (List Int) × Memo=>⟨[(0,.ref tPlanner (plD l) 0),(1,.ex (.clo fc) (A b) (some (xA b))),(4,.row 1 0),(5,.row 2 0)],[(0,.bx (some b) [.sc (.int .i64 (((y.2.1.take y.1).filter p).length:Nat))]),(1,.ob none 0 (.map y.2.2)),(2,.ob none 0 (.que 68 tState (qD y.2.1 y.1)))]⟩) (fun y=>(∃ N,grS l (st0 l) y.1=(y.2.1,N)/\GrI l (st0 l) y.2.1 N/\N.length=y.1)/\seenP l y.2.1 y.2.2) (fun y=>730 - y.1) (0,[st0 l],[(((0:Int),(0:Int),(0:Int)),true)]) ?_ ⟨⟨[],rfl,.one hs0,rfl⟩,.start h.2⟩ ?_
 ·have e0:qD [st0 l] 0=[((0:Int),(0:Int),(0:Int))]:=by unfold qD; rw [List.drop_zero,List.map_cons,s3_zero]; rfl
  have e1:((([st0 l]:List (List Int)).take 0).filter p).length=0:=rfl
  dsimp only
  rw [e0,e1]
  exact WK
 ·rintro ⟨i,S,g⟩ ⟨⟨N,hy,hI,hN⟩,hg⟩
  dsimp only at hy hI hN hg ⊢
  have hS:=vals_le har h.2 hI.g.nd fun t ht=>(hI.g.va t ht).1
  have hNS:=hI.len
  have hql:=qD_len (S:=S) (i:=i)
  have hcl:((S.take i).filter p).length<=729:=Nat.le_trans (List.length_filter_le ..) (by rw [List.length_take]; omega)
  try simp (maxSteps:=9^9) only[go_sem,hql]
  refine CondW_dec (fun hA=>?_) (fun hA=>?_)
  ·have hiS:i < S.length:=by omega
   have hst:S[i]? = some S[i]:=List.getElem?_eq_getElem hiS
   generalize S[i]=st at hst
   have hstv:=(hI.g.va st (List.mem_of_getElem? hst)).1
   have hqc:=qD_cons hst
   have htk:=take_st hst p
   have hcl2:((S.take (i+1)).filter p).length<=729:=Nat.le_trans (List.length_filter_le ..) (by rw [List.length_take]; omega)
   have hcc:=hfc st ((S.take i).filter p).length hstv hcl
   rw [<-htk] at hcc
   have hn0:∀ L:List (Int × Int × Int),nth (t:=tState) (s3 st :: L) 0=s3 st:=fun _=>rfl
   rw [hqc]
   try simp (maxSteps:=9^9) only[go_sem,hn0]
   repeat refine AI ?_
   refine CallD.eb 0 b hcc (zs1 (n:=(((S.take (i+1)).filter p).length:Nat)) ⟨by omega,by omega⟩) rfl ?_
   try simp (maxSteps:=9^9) only[go_sem]
   repeat refine AI ?_
   refine LoopG.intro _ _ _ (fun y:List (List Int) × List Int × Memo=>⟨[(0,.ref tPlanner (plD l) 0),(1,.ex (.clo fc) (A b) (some (xA b))),(4,.row 1 0),(5,.row 2 0),(28,.sc (.int .i64 l.length)),(29,.sc (.int .i64 y.2.1.length))],[(0,.bx (some b) [.sc (.int .i64 (((S.take (i+1)).filter p).length:Nat))]),(1,.ob none 0 (.map y.2.2)),(2,.ob none 0 (.que 68 tState (s3 st :: qD y.1 (i+1))))]⟩) (fun y=>rowS l st S y.2.1.length=(y.1,y.2.1)/\RoI l (st0 l) y.1 N st y.2.1/\seenP l y.1 y.2.2/\∃ X,y.1=S++X) (fun y=>l.length - y.2.1.length) (S,[],g) ?_ ⟨rfl,.start hI (by rw [hN]; exact hst),hg,[],by simp⟩ ?_
   ·exact WK
   ·rintro ⟨T,row,g'⟩ ⟨hr,hR,hg',X,hX⟩
    dsimp only at hr hR hg' hX
    have hT:=vals_le har h.2 hR.g.g.nd fun t ht=>(hR.g.g.va t ht).1
    have hTi:i < T.length:=by rw [hX,List.length_append]; omega
    try simp (maxSteps:=9^9) only[go_sem]
    refine CondW_dec (fun hB=>?_) (fun hB=>?_)
    ·have hlt:row.length < l.length:=by omega
     have c1:=advance_fn l h st har hstv row.length hlt
     by_cases hf:frP l st row.length
     ·simp only [bdec_t hf,cond_true] at c1
      have hav:=stP_adv hstv hlt hf.1
      by_cases hin:adv st row.length ∈ T
      ·have hm:mlk g' (ni (adv st row.length) 0,ni (adv st row.length) 1,ni (adv st row.length) 2)=some true:=(hg' _ hav).1 hin
       obtain ⟨m,hm1,hm2⟩:=first_ex hin
       have hr':=rowS_i hr hf hm1 hm2
       have hR':=hR.i hlt hf hm1
       try simp (maxSteps:=9^9) only[go_sem,hn0]
       repeat refine AI ?_
       repeat refine AI ?_
       refine cw c1 ?_
       try simp (maxSteps:=9^9) only[go_sem]
       try simp (maxSteps:=9^9) only[go_sem,hm]
       repeat refine AI ?_
       trace_state
       refine LoopK.mk (T,row++[(m:Int)],g') ?_ ⟨by dsimp only; rw [List.length_append]; exact hr',hR',hg',X,hX⟩ (by dsimp only; rw [List.length_append,List.length_singleton]; omega)
       exact WK
      ·have hm:mlk g' (ni (adv st row.length) 0,ni (adv st row.length) 1,ni (adv st row.length) 2)=none:=(hg' _ hav).2 hin
       have hr':=rowS_n hr hf hin
       have hR':=hR.n hlt hf hin
       have hg2:=hg'.push h.2 hav
       have hqp:=qD_push (S:=T) (i:=i+1) (t:=adv st row.length) hTi
       have hqT:=qD_len (S:=T) (i:=i+1)
       try simp (maxSteps:=9^9) only[go_sem,hn0]
       repeat refine AI ?_
       repeat refine AI ?_
       refine cw c1 ?_
       try simp (maxSteps:=9^9) only[go_sem]
       try simp (maxSteps:=9^9) only[go_sem,hm,hqT]
       repeat refine AI ?_
       trace_state
       refine LoopK.mk (T++[adv st row.length],row++[(T.length:Int)],(s3 (adv st row.length),true) :: g') ?_ ⟨by dsimp only; rw [List.length_append]; exact hr',hR',hg2,X++[adv st row.length],by rw [hX,List.append_assoc]⟩ (by dsimp only; rw [List.length_append,List.length_singleton]; omega)
       dsimp only
       rw [hqp]
       exact WK
     ·simp only [bdec_f hf,cond_false] at c1
      have hr':=rowS_f hr hf
      have hR':=hR.f hlt hf
      try simp (maxSteps:=9^9) only[go_sem,hn0]
      repeat refine AI ?_
      repeat refine AI ?_
      refine cw c1 ?_
      try simp (maxSteps:=9^9) only[go_sem]
      repeat refine AI ?_
      refine LoopK.mk (T,row++[(-1:Int)],g') ?_ ⟨by dsimp only; rw [List.length_append]; exact hr',hR',hg',X,hX⟩ (by dsimp only; rw [List.length_append,List.length_singleton]; omega)
      exact WK
    ·have hrl:row.length=l.length:=by have:=hR.le; omega
     have hfin:=hR.fin hrl
     have hgs:grS l (st0 l) (i+1)=(T,N++[row]):=grS_s hy (by rw [<-hN] at *; exact hst) (by rw [hrl] at hr; exact hr)
     have htk2:T.take (i+1)=S.take (i+1):=by rw [hX,List.take_append_of_le_length (by omega)]
     try simp (maxSteps:=9^9) only[go_sem]
     repeat refine AI ?_
     trace_state
     refine LoopK.mk (i+1,T,g') ?_ ⟨⟨_,hgs,hfin,by rw [List.length_append,hN]; rfl⟩,hg'⟩ (by dsimp only; omega)
     dsimp only
     rw [htk2]
     exact WK
  ·have hSi:S.length=i:=by omega
   have hall:=grS_e hy hSi 730 (by omega)
   have htk:S.take i=S:=by rw [<-hSi,List.take_length]
   rw [htk]
   rw [show gS l (st0 l)=S by unfold gS; rw [hall]]
   try simp (maxSteps:=9^9) only[go_sem]
   all_goals repeat refine AI ?_
   all_goals first|kernel_rfl|omega|rfl
set_option maxHeartbeats 4000000 in
theorem cntSC_fn (st:List Int) (n:Nat) (hn:n<=729):FnW Tryz.prog 42 (fun b=>⟨tState,s3 st⟩ :: capD (.cst (.ptr b)) ()) (BoxI [.int .i64 n]) (BoxI [.int .i64 ((n+(if (fun _:List Int=>true) st=true then 1 else 0):Nat):Int)]) []:=by
 have hI:I64 (n:Int):=by constructor<;>omega
 rw [if_pos rfl]
 refine fnE_enter tabOK mixes Tryz.func42 rfl rfl _ Tryz.ntmps42 _ Tryz.results42 (by rfl) (fun _=>by show 2<=_; decide) (zs1 hI) fun b hwf=>?_
 try simp (maxSteps:=9^9) only[go_sem,capD]
 refine ⟨⟨by omega,by omega⟩,by omega⟩
theorem cntS_le {l:List DT} (har:arP l) (h3:l.length<=3) {s0:List Int} (hs:stP l s0):cntS l s0<=729:=by
 obtain ⟨hI,_⟩:=gr_fin har h3 hs
 have h:=vals_le har h3 hI.g.nd fun t ht=>(hI.g.va t ht).1
 rw [cnt_gr har h3 hs] at h
 exact h
theorem cntD_le {l:List DT} (har:arP l) (h3:l.length<=3) {s0:List Int} (hs:stP l s0):cntD l s0<=729:=by
 obtain ⟨hI,_⟩:=gr_fin har h3 hs
 have h:=vals_le har h3 hI.g.nd fun t ht=>(hI.g.va t ht).1
 rw [<-cntd_gr har h3 hs]
 exact Nat.le_trans (List.length_filter_le ..) h
theorem all_gr (l:List DT):((gS l (st0 l)).filter fun _=>true)=gS l (st0 l):=List.filter_eq_self.2 fun _ _=>rfl
set_option maxHeartbeats 4000000 in
theorem CountStatesI_fn (l:List DT):Fn Tryz.prog 12 [⟨.slice tTour,l⟩] false [⟨.int,if arB l=true then (cntS l (st0 l):Int) else -1⟩]:=by
 have c0:=AreToursI_fn l
 cases ha:arB l<;>rw [ha] at c0
 ·rw [if_neg (by decide)]
  refine fe Tryz.func12 Tryz.ntmps12 Tryz.results12 fun hwf=>?_
  try simp (maxSteps:=9^9) only[go_sem]
  repeat refine AI ?_
  refine cw c0 ?_
  try simp (maxSteps:=9^9) only[go_sem]
  all_goals repeat refine AI ?_
  all_goals first|kernel_rfl|omega|rfl
 ·have har:=arB_p ha
  have hs0:=stP_zero l
  have c2:=newPlanner_fn l har.1
  have c3:=reached_fn l har.1 har.2 42 (fun b=>.cst (.ptr b)) (fun _=>()) (fun _=>true) (fun st n _ hn=>cntSC_fn st n hn)
  have hfl:((gS l (st0 l)).filter fun _=>true).length=cntS l (st0 l):=by rw [all_gr,cnt_gr har.2 har.1.2 hs0]
  rw [hfl] at c3
  unfold plD at c3
  have hle:cntS l (st0 l)<=729:=cntS_le har.2 har.1.2 hs0
  have hI2:I64 (cntS l (st0 l):Nat):=by constructor<;>omega
  rw [if_pos rfl]
  refine fe Tryz.func12 Tryz.ntmps12 Tryz.results12 fun hwf=>?_
  try simp (maxSteps:=9^9) only[go_sem]
  repeat refine AI ?_
  refine cw c0 ?_
  try simp (maxSteps:=9^9) only[go_sem]
  repeat refine AI ?_
  repeat refine AI ?_
  refine CallW.np (c2) ?_
  try simp (maxSteps:=9^9) only[go_sem]
  refine CallK.eb 0 c3 (zs1 hI2) ?_
  try simp (maxSteps:=9^9) only[go_sem]
  exact fun b=>rfl
theorem b2n (b:Bool):(if b=true then 1 else 0:Nat)=b.toNat:=by cases b<;>rfl
set_option maxHeartbeats 4000000 in
theorem cntDC_fn (l:List DT) (h:1<=l.length/\l.length<=3) (har:arP l) (st:List Int) (n:Nat) (hst:stP l st) (hn:n<=729):FnW Tryz.prog 35 (fun b=>⟨tState,s3 st⟩ :: capD (.prod (.ext .ref (.ext .ref tPlanner)) (.prod (.ext .ref (.slice tTour)) (.cst (.ptr b)))) (some (some (plD l)),(some l,()))) (BoxI [.int .i64 n]) (BoxI [.int .i64 ((n+(if (fun t=>bdec (stk l t)) st=true then 1 else 0):Nat):Int)]) []:=by
 have hI:I64 (n:Int):=by constructor<;>omega
 have c1:=isEnd_fn l h st hst
 have eb:=b2n (bdec (stk l st))
 dsimp only
 rw [eb]
 refine fnE_enter tabOK mixes Tryz.func35 rfl rfl _ Tryz.ntmps35 _ Tryz.results35 (by rfl) (fun _=>by show 4<=_; decide) (zs1 hI) fun b hwf=>?_
 try simp (maxSteps:=9^9) only[go_sem,capD]
 repeat refine AI ?_
 refine cw c1 ?_
 try simp (maxSteps:=9^9) only[go_sem]
 refine LoopG.intro _ _ _ (fun k:Nat=>⟨[(1,.ref (.ext .ref tPlanner) (some (plD l)) 0),(2,.ref (.slice tTour) l 0),(3,.ptr 0 0),(4,.ptr 1 0),(5,.sc (.bool (stA l st k))),(14,.sc (.int .i64 l.length)),(15,.sc (.int .i64 k))],[(0,.bx (some b) [.sc (.int .i64 n)]),(1,.box (cel tState (s3 st)))]⟩) (fun k=>k<=l.length) (fun k=>l.length - k) 0 ?_ (Nat.zero_le _) ?_
 ·rw [stA_0]
  exact WK
 ·rintro k hk
  try simp (maxSteps:=9^9) only[go_sem]
  refine CondW_dec (fun hB=>?_) (fun hB=>?_)
  ·have hkl:k < l.length:=by omega
   have c2:=advance_fn l h st har hst k hkl
   have hs:=stA_s (l:=l) (st:=st) (k:=k)
   by_cases hf:frP l st k
   ·simp only [bdec_t hf,cond_true] at c2
    rw [bdec_t hf] at hs
    cases ha':stA l st k with
    | false =>
     rw [ha',Bool.false_and] at hs
     try simp (maxSteps:=9^9) only[go_sem]
     repeat refine AI ?_
     repeat refine AI ?_
     refine cw c2 ?_
     try simp (maxSteps:=9^9) only[go_sem]
     repeat refine AI ?_
     refine LoopK.mk (k+1) ?_ (by omega) (by omega)
     rw [hs]
     exact WK
    | true =>
     rw [ha',Bool.true_and] at hs
     try simp (maxSteps:=9^9) only[go_sem]
     repeat refine AI ?_
     repeat refine AI ?_
     refine cw c2 ?_
     try simp (maxSteps:=9^9) only[go_sem]
     repeat refine AI ?_
     refine LoopK.mk (k+1) ?_ (by omega) (by omega)
     rw [hs]
     exact WK
   ·simp only [bdec_f hf,cond_false] at c2
    rw [bdec_f hf] at hs
    cases ha':stA l st k with
    | false =>
     rw [ha',Bool.false_and] at hs
     try simp (maxSteps:=9^9) only[go_sem]
     repeat refine AI ?_
     repeat refine AI ?_
     refine cw c2 ?_
     try simp (maxSteps:=9^9) only[go_sem]
     repeat refine AI ?_
     refine LoopK.mk (k+1) ?_ (by omega) (by omega)
     rw [hs]
     exact WK
    | true =>
     rw [ha',Bool.true_and] at hs
     try simp (maxSteps:=9^9) only[go_sem]
     repeat refine AI ?_
     repeat refine AI ?_
     refine cw c2 ?_
     try simp (maxSteps:=9^9) only[go_sem]
     repeat refine AI ?_
     refine LoopK.mk (k+1) ?_ (by omega) (by omega)
     rw [hs]
     exact WK
  ·obtain rfl:k=l.length:=by omega
   rw [stA_e]
   by_cases hk:stk l st
   ·rw [bdec_t hk,Bool.toNat_true]
    try simp (maxSteps:=9^9) only[go_sem]
    refine ⟨⟨by omega,by omega⟩,by omega⟩
   ·rw [bdec_f hk,Bool.toNat_false]
    try simp (maxSteps:=9^9) only[go_sem]
    all_goals repeat refine AI ?_
    all_goals first|kernel_rfl|omega|rfl
theorem stk_gr (l:List DT) (har:arP l) (h3:l.length<=3):((gS l (st0 l)).filter fun t=>bdec (stk l t)).length=cntD l (st0 l):=cntd_gr har h3 (stP_zero l)
set_option maxHeartbeats 4000000 in
theorem CountDeadlocksI_fn (l:List DT):Fn Tryz.prog 10 [⟨.slice tTour,l⟩] false [⟨.int,if arB l=true then (cntD l (st0 l):Int) else -1⟩]:=by
 have c0:=AreToursI_fn l
 cases ha:arB l<;>rw [ha] at c0
 ·rw [if_neg (by decide)]
  refine fe Tryz.func10 Tryz.ntmps10 Tryz.results10 fun hwf=>?_
  try simp (maxSteps:=9^9) only[go_sem]
  repeat refine AI ?_
  refine cw c0 ?_
  try simp (maxSteps:=9^9) only[go_sem]
  all_goals repeat refine AI ?_
  all_goals first|kernel_rfl|omega|rfl
 ·have har:=arB_p ha
  have hs0:=stP_zero l
  have c2:=newPlanner_fn l har.1
  have c3:=reached_fn l har.1 har.2 35 (fun b=>.prod (.ext .ref (.ext .ref tPlanner)) (.prod (.ext .ref (.slice tTour)) (.cst (.ptr b)))) (fun _=>(some (some (plD l)),(some l,()))) (fun t=>bdec (stk l t)) (fun st n hst hn=>cntDC_fn l har.1 har.2 st n hst hn)
  rw [stk_gr l har.2 har.1.2] at c3
  unfold plD at c3
  have hle:cntD l (st0 l)<=729:=cntD_le har.2 har.1.2 hs0
  have hI2:I64 (cntD l (st0 l):Nat):=by constructor<;>omega
  rw [if_pos rfl]
  refine fe Tryz.func10 Tryz.ntmps10 Tryz.results10 fun hwf=>?_
  try simp (maxSteps:=9^9) only[go_sem]
  repeat refine AI ?_
  refine cw c0 ?_
  try simp (maxSteps:=9^9) only[go_sem]
  repeat refine AI ?_
  repeat refine AI ?_
  refine CallW.np (c2) ?_
  try simp (maxSteps:=9^9) only[go_sem]
  refine CallK.eb 4 c3 (zs1 hI2) ?_
  try simp (maxSteps:=9^9) only[go_sem]
  refine fun b=>⟨rfl,⟨by decide,(?_:IsH0 _ 4 b tPlanner (l,(plT l,some (0:Int))) (cel tPl0 (l,plT l)++[.row 2 0]))⟩⟩
  try simp (maxSteps:=9^9) only[go_sem]
  rfl
end Go.Proofs.YtbnkojgcbmfloaaGreat.DW

namespace Go.Proofs.YtbnkojgcbmfloaaGreat
open Go.RowKit
abbrev DVec:=Int × Int
abbrev RVec:Rp DVec:=Rp.prod Rp.int Rp.int
abbrev DVecS:=List DVec
abbrev RVecS:Rp DVecS:=Rp.slice RVec (by decide)
abbrev DTour:=DVecS × (DPlacement × DStepS)
abbrev RTour:Rp DTour:=Rp.prod RVecS (Rp.prod RPlacement RStepS)
def tTour (x:DTour):Nat:=(x.1.length+tPlacement x.2.1)+(x.2.2.length+tStepS x.2.2)
namespace DW
theorem szVecS_fn (x:DVecS) (left:Int) (h0:0<=left) (h1:left<=1048576):Fn Tryz.prog 80 [⟨.slice DW.tVec,x⟩,⟨.int,left⟩] false [⟨.int,szr left x.length⟩]:=by
 by_cases h:(x.length:Int)<=left
 ·rw [<-szr_ge h]
  have d:=decide_eq_false (p:=left - (x.length:Int) < 0) (by omega)
  refine fe Tryz.func80 Tryz.ntmps80 Tryz.results80 fun hwf=>?_
  have hl:x.length<=9223372036854775807:=(hwf ⟨.slice DW.tVec,x⟩ (by simp)).1
  try simp (maxSteps:=9^9) only[go_sem]
  repeat refine AI ?_
  try simp (maxSteps:=9^9) only[go_sem,d]
  all_goals repeat refine AI ?_
  all_goals first|kernel_rfl|omega|rfl
 ·rw [<-szr_lt (by omega)]
  have d:=decide_eq_true (p:=left - (x.length:Int) < 0) (by omega)
  refine fe Tryz.func80 Tryz.ntmps80 Tryz.results80 fun hwf=>?_
  have hl:x.length<=9223372036854775807:=(hwf ⟨.slice DW.tVec,x⟩ (by simp)).1
  try simp (maxSteps:=9^9) only[go_sem]
  repeat refine AI ?_
  try simp (maxSteps:=9^9) only[go_sem,d]
  all_goals repeat refine AI ?_
  all_goals first|kernel_rfl|omega|rfl
theorem toVec_fn (x:DVec):Fn Tryz.prog 127 [⟨DW.tVec,x⟩] false [⟨DW.tVec,x⟩]:=by
 refine fe Tryz.func127 Tryz.ntmps127 Tryz.results127 fun hwf=>?_
 try simp (maxSteps:=9^9) only[go_sem]
 all_goals repeat refine AI ?_
 all_goals first|kernel_rfl|omega|rfl
theorem toVecS_fn (x:DVecS) (hs:x.length<=1048576):Fn Tryz.prog 88 [⟨.slice DW.tVec,x⟩] true [⟨.slice DW.tVec,x⟩]:=by
 refine fe Tryz.func88 Tryz.ntmps88 Tryz.results88 fun hwf=>?_
 try simp (maxSteps:=9^9) only[go_sem]
 repeat refine AI ?_
 refine LoopG.intro _ _ _ (fun i:Nat=>⟨[(0,.sl DW.tVec x),(3,.row 0 0),(4,.sc (.int .i64 i))],[(0,.row 61 DW.tVec 0 true (x.take i++List.replicate (x.length - i) ((0:Int),(0:Int))))]⟩) (fun i=>i<=x.length) (fun i=>x.length - i) 0 ?_ (Nat.zero_le _) ?_
 ·exact WK
 ·rintro i hi
  have hlen:(x.take i++List.replicate (x.length - i) ((0:Int),(0:Int))).length=x.length:=by simp; omega
  try simp (maxSteps:=9^9) only[go_sem]
  refine CondW_dec (fun hA=>?_) (fun hA=>?_)
  ·have hset:(x.take i++List.replicate (x.length - i) ((0:Int),(0:Int))).set i (nth (t:=DW.tVec) x i)=x.take (i+1)++List.replicate (x.length - (i+1)) ((0:Int),(0:Int)):=by
    have hlt:i < x.length:=by omega
    rw [List.set_append_right _ _ (by rw [List.length_take]; omega),List.length_take,show i - min i x.length=0 by omega,show x.length - i=(x.length - (i+1))+1 by omega,List.replicate_succ,List.set_cons_zero,nth_lt hlt]
    have e:x.take (i+1)=x.take i++[x[i]]:=List.take_succ_eq_append_getElem hlt
    rw [e,List.append_assoc]; rfl
   have ht:(List.take i x).length=i:=by rw [List.length_take]; omega
   have c1:=toVec_fn (nth (t:=DW.tVec) x i)
   try simp (maxSteps:=9^9) only[go_sem]
   repeat refine AI ?_
   repeat refine AI ?_
   refine cw c1 ?_
   try simp (maxSteps:=9^9) only[go_sem]
   repeat refine AI ?_
   refine LoopK.mk (i+1) ?_ (by omega) (by omega)
   rw [<-hset]
   exact WK
  ·have:x.take i++List.replicate (x.length - i) ((0:Int),(0:Int))=x:=by
    rw [List.take_of_length_le (by omega),show x.length - i=0 by omega]; simp
   rw [this]
   try simp (maxSteps:=9^9) only[go_sem]
   all_goals repeat refine AI ?_
   all_goals first|kernel_rfl|omega|rfl
theorem eqVec_fn (x y:DVec):Fn Tryz.prog 130 [⟨DW.tVec,x⟩,⟨DW.tVec,y⟩] false [⟨.bool,eqb x y⟩]:=by
 by_cases h1:x.1=y.1
 ·have d1:=decide_eq_true h1
  by_cases h2:x.2=y.2
  ·have d2:=decide_eq_true h2
   rw [eqb_true (Prod.ext h1 h2)]
   refine fe Tryz.func130 Tryz.ntmps130 Tryz.results130 fun hwf=>?_
   try simp (maxSteps:=9^9) only[go_sem,d1,d2]
  ·have d2:=decide_eq_false h2
   rw [eqb_false (fun h=>h2 (by rw [h]))]
   refine fe Tryz.func130 Tryz.ntmps130 Tryz.results130 fun hwf=>?_
   try simp (maxSteps:=9^9) only[go_sem,d1,d2]
 ·have d1:=decide_eq_false h1
  rw [eqb_false (fun h=>h1 (by rw [h]))]
  refine fe Tryz.func130 Tryz.ntmps130 Tryz.results130 fun hwf=>?_
  try simp (maxSteps:=9^9) only[go_sem,d1]
theorem eqVecS_fn (x y:DVecS):Fn Tryz.prog 91 [⟨.slice DW.tVec,x⟩,⟨.slice DW.tVec,y⟩] false [⟨.bool,eqb x y⟩]:=by
 by_cases h0:(x.length:Int)=y.length
 ·have d0:=decide_eq_true h0
  refine fe Tryz.func91 Tryz.ntmps91 Tryz.results91 fun hwf=>?_
  have hl:x.length<=9223372036854775807:=(hwf ⟨.slice DW.tVec,x⟩ (by simp)).1
  try simp (maxSteps:=9^9) only[go_sem,d0]
  refine LoopG.intro _ _ _ (fun i:Nat=>⟨[(0,.sl DW.tVec x),(1,.sl DW.tVec y),(5,.sc (.int .i64 i))],[]⟩) (fun i=>∀ j,j < i->j < x.length->nth (t:=DW.tVec) x j=nth (t:=DW.tVec) y j) (fun i=>x.length - i) 0 ?_ (fun j h=>absurd h (Nat.not_lt_zero _)) ?_
  ·exact WK
  ·rintro i hi
   try simp (maxSteps:=9^9) only[go_sem]
   refine CondW_dec (fun hA=>?_) (fun hA=>?_)
   ·have c1:=eqVec_fn (nth (t:=DW.tVec) x i) (nth (t:=DW.tVec) y i)
    by_cases e:nth (t:=DW.tVec) x i=nth (t:=DW.tVec) y i
    ·rw [eqb_true e] at c1
     try simp (maxSteps:=9^9) only[go_sem]
     repeat refine AI ?_
     repeat refine AI ?_
     refine cw c1 ?_
     try simp (maxSteps:=9^9) only[go_sem]
     repeat refine AI ?_
     refine LoopK.mk (i+1) ?_ (fun j h1 h2=>?_) (by omega)
     ·exact WK
     ·by_cases h3:j < i
      ·exact hi j h3 h2
      ·rw [show j=i by omega]; exact e
    ·rw [eqb_false e] at c1
     rw [eqb_false (fun h=>e (by rw [h]))]
     try simp (maxSteps:=9^9) only[go_sem]
     repeat refine AI ?_
     repeat refine AI ?_
     refine cw c1 ?_
     try simp (maxSteps:=9^9) only[go_sem]
     all_goals repeat refine AI ?_
     all_goals first|kernel_rfl|omega|rfl
   ·have:x=y:=by
     refine List.ext_getElem (by omega) fun j h1 h2=>?_
     have:=hi j (by omega) h1
     rwa [nth_lt h1,nth_lt h2] at this
    rw [eqb_true this]
    try simp (maxSteps:=9^9) only[go_sem]
 ·have d0:=decide_eq_false h0
  rw [eqb_false (fun h=>h0 (by rw [h]))]
  refine fe Tryz.func91 Tryz.ntmps91 Tryz.results91 fun hwf=>?_
  try simp (maxSteps:=9^9) only[go_sem,d0]
theorem szTour_fn (x:DTour) (left:Int) (h0:0<=left) (h1:left<=1048576):Fn Tryz.prog 50 [⟨DW.tTour,x⟩,⟨.int,left⟩] false [⟨.int,szr left (Go.Proofs.YtbnkojgcbmfloaaGreat.tTour x)⟩]:=by
 obtain ⟨r,p,l⟩:=x
 have c1:=szVecS_fn r left h0 h1
 have r1:=szr_lo left r.length h0
 have hT:Go.Proofs.YtbnkojgcbmfloaaGreat.tTour (r,p,l)=(r.length+tPlacement p)+(l.length+tStepS l):=rfl
 by_cases e1:szr left r.length < 0
 ·have d1:=decide_eq_true e1
  rw [<-szr_fail e1 (b:=Go.Proofs.YtbnkojgcbmfloaaGreat.tTour (r,p,l)) (by omega)]
  refine fe Tryz.func50 Tryz.ntmps50 Tryz.results50 fun hwf=>?_
  try simp (maxSteps:=9^9) only[go_sem]
  repeat refine AI ?_
  refine cw c1 ?_
  try simp (maxSteps:=9^9) only[go_sem]
  try simp (maxSteps:=9^9) only[go_sem,d1]
  all_goals repeat refine AI ?_
  all_goals first|kernel_rfl|omega|rfl
 ·have d1:=decide_eq_false e1
  have c2:=szPlacement_fn p (szr left r.length) (by omega) (by omega)
  have r2:=szr_lo (szr left r.length) (tPlacement p) (by omega)
  have a2:=szr_add left r.length (tPlacement p) (by omega)
  by_cases e2:szr (szr left r.length) (tPlacement p) < 0
  ·have d2:=decide_eq_true e2
   rw [<-szr_fail (by rw [<-a2]; exact e2) (a:=r.length+tPlacement p) (b:=Go.Proofs.YtbnkojgcbmfloaaGreat.tTour (r,p,l)) (by omega)]
   refine fe Tryz.func50 Tryz.ntmps50 Tryz.results50 fun hwf=>?_
   try simp (maxSteps:=9^9) only[go_sem]
   repeat refine AI ?_
   refine cw c1 ?_
   try simp (maxSteps:=9^9) only[go_sem]
   try simp (maxSteps:=9^9) only[go_sem,d1]
   repeat refine AI ?_
   refine cw c2 ?_
   try simp (maxSteps:=9^9) only[go_sem]
   try simp (maxSteps:=9^9) only[go_sem,d2]
   all_goals repeat refine AI ?_
   all_goals first|kernel_rfl|omega|rfl
  ·have d2:=decide_eq_false e2
   have c3:=szStepS_fn l (szr (szr left r.length) (tPlacement p)) (by omega) (by omega)
   have r3:=szr_lo (szr (szr left r.length) (tPlacement p)) (l.length+tStepS l) (by omega)
   have a3:=szr_add left (r.length+tPlacement p) (l.length+tStepS l) (by rw [<-a2]; omega)
   rw [<-a2] at a3
   rw [hT,<-a3]
   by_cases e3:szr (szr (szr left r.length) (tPlacement p)) (l.length+tStepS l) < 0
   ·have d3:=decide_eq_true e3
    have e4:szr (szr (szr left r.length) (tPlacement p)) (l.length+tStepS l)=-1:=by omega
    rw [e4] at d3 c3 ⊢
    refine fe Tryz.func50 Tryz.ntmps50 Tryz.results50 fun hwf=>?_
    try simp (maxSteps:=9^9) only[go_sem]
    repeat refine AI ?_
    refine cw c1 ?_
    try simp (maxSteps:=9^9) only[go_sem]
    try simp (maxSteps:=9^9) only[go_sem,d1]
    repeat refine AI ?_
    refine cw c2 ?_
    try simp (maxSteps:=9^9) only[go_sem]
    try simp (maxSteps:=9^9) only[go_sem,d2]
    repeat refine AI ?_
    refine cw c3 ?_
    try simp (maxSteps:=9^9) only[go_sem]
    all_goals repeat refine AI ?_
    all_goals first|kernel_rfl|omega|rfl
   ·have d3:=decide_eq_false e3
    refine fe Tryz.func50 Tryz.ntmps50 Tryz.results50 fun hwf=>?_
    try simp (maxSteps:=9^9) only[go_sem]
    repeat refine AI ?_
    refine cw c1 ?_
    try simp (maxSteps:=9^9) only[go_sem]
    try simp (maxSteps:=9^9) only[go_sem,d1]
    repeat refine AI ?_
    refine cw c2 ?_
    try simp (maxSteps:=9^9) only[go_sem]
    try simp (maxSteps:=9^9) only[go_sem,d2]
    repeat refine AI ?_
    refine cw c3 ?_
    try simp (maxSteps:=9^9) only[go_sem]
    try simp (maxSteps:=9^9) only[go_sem,d3]
    all_goals repeat refine AI ?_
    all_goals first|kernel_rfl|omega|rfl
theorem toTour_fn (x:DTour) (hs:Go.Proofs.YtbnkojgcbmfloaaGreat.tTour x<=1048576):Fn Tryz.prog 53 [⟨DW.tTour,x⟩] true [⟨DW.tTour,x⟩]:=by
 obtain ⟨r,p,l⟩:=x
 have hT:Go.Proofs.YtbnkojgcbmfloaaGreat.tTour (r,p,l)=(r.length+tPlacement p)+(l.length+tStepS l):=rfl
 have c1:=toVecS_fn r (by omega)
 have c2:=toPlacement_fn p (by omega)
 have c3:=toStepS_fn l (by omega)
 refine fe Tryz.func53 Tryz.ntmps53 Tryz.results53 fun hwf=>?_
 try simp (maxSteps:=9^9) only[go_sem]
 repeat refine AI ?_
 refine cw c1 ?_
 try simp (maxSteps:=9^9) only[go_sem]
 repeat refine AI ?_
 refine cw c2 ?_
 try simp (maxSteps:=9^9) only[go_sem]
 repeat refine AI ?_
 refine cw c3 ?_
 try simp (maxSteps:=9^9) only[go_sem]
 all_goals repeat refine AI ?_
 all_goals first|kernel_rfl|omega|rfl
theorem eqTour_fn (x y:DTour):Fn Tryz.prog 54 [⟨DW.tTour,x⟩,⟨DW.tTour,y⟩] false [⟨.bool,eqb x y⟩]:=by
 obtain ⟨r,p,l⟩:=x
 obtain ⟨r',p',l'⟩:=y
 have c1:=eqVecS_fn r r'
 have c2:=eqPlacement_fn p p'
 have c3:=eqStepS_fn l l'
 by_cases e1:r=r'
 ·rw [eqb_true e1] at c1
  by_cases e2:p=p'
  ·rw [eqb_true e2] at c2
   by_cases e3:l=l'
   ·rw [eqb_true e3] at c3
    rw [eqb_true (by rw [e1,e2,e3])]
    refine fe Tryz.func54 Tryz.ntmps54 Tryz.results54 fun hwf=>?_
    try simp (maxSteps:=9^9) only[go_sem]
    repeat refine AI ?_
    refine cw c1 ?_
    try simp (maxSteps:=9^9) only[go_sem]
    repeat refine AI ?_
    refine cw c2 ?_
    try simp (maxSteps:=9^9) only[go_sem]
    repeat refine AI ?_
    refine cw c3 ?_
    try simp (maxSteps:=9^9) only[go_sem]
   ·rw [eqb_false e3] at c3
    rw [eqb_false (fun h=>e3 (congrArg (fun z=>z.2.2) h))]
    refine fe Tryz.func54 Tryz.ntmps54 Tryz.results54 fun hwf=>?_
    try simp (maxSteps:=9^9) only[go_sem]
    repeat refine AI ?_
    refine cw c1 ?_
    try simp (maxSteps:=9^9) only[go_sem]
    repeat refine AI ?_
    refine cw c2 ?_
    try simp (maxSteps:=9^9) only[go_sem]
    repeat refine AI ?_
    refine cw c3 ?_
    try simp (maxSteps:=9^9) only[go_sem]
  ·rw [eqb_false e2] at c2
   rw [eqb_false (fun h=>e2 (congrArg (fun z=>z.2.1) h))]
   refine fe Tryz.func54 Tryz.ntmps54 Tryz.results54 fun hwf=>?_
   try simp (maxSteps:=9^9) only[go_sem]
   repeat refine AI ?_
   refine cw c1 ?_
   try simp (maxSteps:=9^9) only[go_sem]
   repeat refine AI ?_
   refine cw c2 ?_
   try simp (maxSteps:=9^9) only[go_sem]
 ·rw [eqb_false e1] at c1
  rw [eqb_false (fun h=>e1 (congrArg (fun z=>z.1) h))]
  refine fe Tryz.func54 Tryz.ntmps54 Tryz.results54 fun hwf=>?_
  try simp (maxSteps:=9^9) only[go_sem]
  repeat refine AI ?_
  refine cw c1 ?_
  try simp (maxSteps:=9^9) only[go_sem]
end DW
abbrev DTourS:=List DTour
abbrev RTourS:Rp DTourS:=Rp.slice RTour (by decide)
def tTourS:DTourS->Nat
 | []=>0
 | x :: l=>tTour x+tTourS l
theorem tTourS_snoc (l:DTourS) (x:DTour):tTourS (l++[x])=tTourS l+tTour x:=by
 induction l with
 | nil=>simp [tTourS]
 | cons y l ih=>simp [tTourS,ih]; omega
theorem tTourS_take (l:DTourS) (k:Nat):tTourS (l.take k)<=tTourS l:=by
 induction l generalizing k with
 | nil=>simp [tTourS]
 | cons y l ih=>cases k with
  | zero=>simp [tTourS]
  | succ k=>have:=ih k; simp [tTourS]; omega
theorem tTourS_mem {l:DTourS} {i:Nat} (h:i < l.length):tTour l[i]<=tTourS l:=by
 have h1:=tTourS_take l (i+1)
 rw [List.take_succ_eq_append_getElem h,tTourS_snoc] at h1
 omega
namespace DW
@[go_sem] theorem bts_Tour:bts Tryz.prog 38=some 168:=by kernel_rfl
theorem szTourS_fn (x:DTourS) (left:Int) (h0:0<=left) (h1:left<=1048576):Fn Tryz.prog 17 [⟨.slice DW.tTour,x⟩,⟨.int,left⟩] false [⟨.int,szr left (x.length+tTourS x)⟩]:=by
 by_cases h:left - (x.length:Int) < 0
 ·rw [<-szr_lt (by omega)]
  have d:=decide_eq_true h
  refine fe Tryz.func17 Tryz.ntmps17 Tryz.results17 fun hwf=>?_
  have hl:x.length<=9223372036854775807:=(hwf ⟨.slice DW.tTour,x⟩ (by simp)).1
  try simp (maxSteps:=9^9) only[go_sem]
  repeat refine AI ?_
  try simp (maxSteps:=9^9) only[go_sem,d]
  all_goals repeat refine AI ?_
  all_goals first|kernel_rfl|omega|rfl
 ·have d:=decide_eq_false h
  have hr0:=szr_lo left (x.length+tTourS x) h0
  refine fe Tryz.func17 Tryz.ntmps17 Tryz.results17 fun hwf=>?_
  have hl:x.length<=9223372036854775807:=(hwf ⟨.slice DW.tTour,x⟩ (by simp)).1
  try simp (maxSteps:=9^9) only[go_sem]
  repeat refine AI ?_
  try simp (maxSteps:=9^9) only[go_sem,d]
  refine LoopG.intro _ _ _ (fun i:Nat=>⟨[(0,.sl DW.tTour x),(1,.sc (.int .i64 (szr left (x.length+tTourS (x.take i))))),(5,.sc (.int .i64 i))],[]⟩) (fun i=>i<=x.length/\0<=szr left (x.length+tTourS (x.take i))) (fun i=>x.length - i) 0 ?_ ⟨Nat.zero_le _,by
   have e:szr left (x.length+tTourS (x.take 0))=left - x.length:=by simp [tTourS]; exact (szr_ge (by omega)).symm
   rw [e]; omega⟩ ?_
  ·have e:szr left (x.length+tTourS (x.take 0))=left - x.length:=by simp [tTourS]; exact (szr_ge (by omega)).symm
   rw [e]
   exact WK
  ·rintro i ⟨hi,hle⟩
   have hr1:=szr_lo left (x.length+tTourS (x.take i)) h0
   try simp (maxSteps:=9^9) only[go_sem]
   refine CondW_dec (fun hA=>?_) (fun hA=>?_)
   ·have hlt:i < x.length:=by omega
    have hts:tTourS (x.take i)+Go.Proofs.YtbnkojgcbmfloaaGreat.tTour x[i]=tTourS (x.take (i+1)):=by rw [List.take_succ_eq_append_getElem hlt,tTourS_snoc]
    have c1:=szTour_fn (nth (t:=DW.tTour) x i) (szr left (x.length+tTourS (x.take i))) hle (by omega)
    rw [nth_lt hlt,szr_add _ _ _ hle,Nat.add_assoc,hts] at c1
    rw [<-nth_lt (t:=DW.tTour) hlt] at c1
    have hr2:=szr_lo left (x.length+tTourS (x.take (i+1))) h0
    by_cases e1:szr left (x.length+tTourS (x.take (i+1))) < 0
    ·have d1:=decide_eq_true e1
     have hf:=szr_fail e1 (b:=x.length+tTourS x) (Nat.add_le_add_left (tTourS_take x (i+1)) _)
     rw [<-hf]
     try simp (maxSteps:=9^9) only[go_sem]
     repeat refine AI ?_
     repeat refine AI ?_
     refine cw c1 ?_
     try simp (maxSteps:=9^9) only[go_sem]
     try simp (maxSteps:=9^9) only[go_sem,d1]
     all_goals repeat refine AI ?_
     all_goals first|kernel_rfl|omega|rfl
    ·have d1:=decide_eq_false e1
     try simp (maxSteps:=9^9) only[go_sem]
     repeat refine AI ?_
     repeat refine AI ?_
     refine cw c1 ?_
     try simp (maxSteps:=9^9) only[go_sem]
     try simp (maxSteps:=9^9) only[go_sem,d1]
     repeat refine AI ?_
     refine LoopK.mk (i+1) ?_ ⟨by omega,by omega⟩ (by omega)
     exact WK
   ·have hi2:i=x.length:=by omega
    subst hi2
    rw [List.take_length] at hr1 ⊢
    try simp (maxSteps:=9^9) only[go_sem]
    all_goals repeat refine AI ?_
    all_goals first|kernel_rfl|omega|rfl
theorem toTourS_fn (x:DTourS) (hs:x.length+tTourS x<=1048576):Fn Tryz.prog 19 [⟨.slice DW.tTour,x⟩] true [⟨.slice DW.tTour,x⟩]:=by
 refine fe Tryz.func19 Tryz.ntmps19 Tryz.results19 fun hwf=>?_
 try simp (maxSteps:=9^9) only[go_sem]
 repeat refine AI ?_
 refine LoopG.intro _ _ _ (fun i:Nat=>⟨[(0,.sl DW.tTour x),(3,.row 0 0),(4,.sc (.int .i64 i))],[(0,.row 38 DW.tTour 0 true (x.take i++List.replicate (x.length - i) (([],(((0:Int),(((false,[]),[]),((false,[]),[]))),[])):DTour)))]⟩) (fun i=>i<=x.length) (fun i=>x.length - i) 0 ?_ (Nat.zero_le _) ?_
 ·exact WK
 ·rintro i hi
  have hlen:(x.take i++List.replicate (x.length - i) (([],(((0:Int),(((false,[]),[]),((false,[]),[]))),[])):DTour)).length=x.length:=by simp; omega
  try simp (maxSteps:=9^9) only[go_sem]
  refine CondW_dec (fun hA=>?_) (fun hA=>?_)
  ·have hlt:i < x.length:=by omega
   have hset:(x.take i++List.replicate (x.length - i) (([],(((0:Int),(((false,[]),[]),((false,[]),[]))),[])):DTour)).set i (nth (t:=DW.tTour) x i)=x.take (i+1)++List.replicate (x.length - (i+1)) (([],(((0:Int),(((false,[]),[]),((false,[]),[]))),[])):DTour):=by
    rw [List.set_append_right _ _ (by rw [List.length_take]; omega),List.length_take,show i - min i x.length=0 by omega,show x.length - i=(x.length - (i+1))+1 by omega,List.replicate_succ,List.set_cons_zero,nth_lt hlt]
    have e:x.take (i+1)=x.take i++[x[i]]:=List.take_succ_eq_append_getElem hlt
    rw [e,List.append_assoc]; rfl
   have ht:(List.take i x).length=i:=by rw [List.length_take]; omega
   have c1:=toTour_fn (nth (t:=DW.tTour) x i) (by rw [nth_lt hlt]; have:=tTourS_mem hlt; omega)
   try simp (maxSteps:=9^9) only[go_sem]
   repeat refine AI ?_
   repeat refine AI ?_
   refine cw c1 ?_
   try simp (maxSteps:=9^9) only[go_sem]
   repeat refine AI ?_
   refine LoopK.mk (i+1) ?_ (by omega) (by omega)
   rw [<-hset]
   exact WK
  ·have:x.take i++List.replicate (x.length - i) (([],(((0:Int),(((false,[]),[]),((false,[]),[]))),[])):DTour)=x:=by
    rw [List.take_of_length_le (by omega),show x.length - i=0 by omega]; simp
   rw [this]
   try simp (maxSteps:=9^9) only[go_sem]
   all_goals repeat refine AI ?_
   all_goals first|kernel_rfl|omega|rfl
theorem eqTourS_fn (x y:DTourS):Fn Tryz.prog 20 [⟨.slice DW.tTour,x⟩,⟨.slice DW.tTour,y⟩] false [⟨.bool,eqb x y⟩]:=by
 by_cases h0:(x.length:Int)=y.length
 ·have d0:=decide_eq_true h0
  refine fe Tryz.func20 Tryz.ntmps20 Tryz.results20 fun hwf=>?_
  have hl:x.length<=9223372036854775807:=(hwf ⟨.slice DW.tTour,x⟩ (by simp)).1
  try simp (maxSteps:=9^9) only[go_sem,d0]
  refine LoopG.intro _ _ _ (fun i:Nat=>⟨[(0,.sl DW.tTour x),(1,.sl DW.tTour y),(5,.sc (.int .i64 i))],[]⟩) (fun i=>∀ j,j < i->j < x.length->nth (t:=DW.tTour) x j=nth (t:=DW.tTour) y j) (fun i=>x.length - i) 0 ?_ (fun j h=>absurd h (Nat.not_lt_zero _)) ?_
  ·exact WK
  ·rintro i hi
   try simp (maxSteps:=9^9) only[go_sem]
   refine CondW_dec (fun hA=>?_) (fun hA=>?_)
   ·have c1:=eqTour_fn (nth (t:=DW.tTour) x i) (nth (t:=DW.tTour) y i)
    by_cases e:nth (t:=DW.tTour) x i=nth (t:=DW.tTour) y i
    ·rw [eqb_true e] at c1
     try simp (maxSteps:=9^9) only[go_sem]
     repeat refine AI ?_
     repeat refine AI ?_
     refine cw c1 ?_
     try simp (maxSteps:=9^9) only[go_sem]
     repeat refine AI ?_
     refine LoopK.mk (i+1) ?_ (fun j h1 h2=>?_) (by omega)
     ·exact WK
     ·by_cases h3:j < i
      ·exact hi j h3 h2
      ·rw [show j=i by omega]; exact e
    ·rw [eqb_false e] at c1
     rw [eqb_false (fun h=>e (by rw [h]))]
     try simp (maxSteps:=9^9) only[go_sem]
     repeat refine AI ?_
     repeat refine AI ?_
     refine cw c1 ?_
     try simp (maxSteps:=9^9) only[go_sem]
     all_goals repeat refine AI ?_
     all_goals first|kernel_rfl|omega|rfl
   ·have:x=y:=by
     refine List.ext_getElem (by omega) fun j h1 h2=>?_
     have:=hi j (by omega) h1
     rwa [nth_lt h1,nth_lt h2] at this
    rw [eqb_true this]
    try simp (maxSteps:=9^9) only[go_sem]
 ·have d0:=decide_eq_false h0
  rw [eqb_false (fun h=>h0 (by rw [h]))]
  refine fe Tryz.func20 Tryz.ntmps20 Tryz.results20 fun hwf=>?_
  try simp (maxSteps:=9^9) only[go_sem,d0]
end DW
section
variable {H:Type} {enc:TypeId × Value->H} {w:World} {P:Program}
theorem Opens.prod3 {α β γ:Type} {t:TypeId} {A:Rp α} {B:Rp β} {C:Rp γ} {f0 f1 f2:Field} (ht:P.underlying t=some (.struct #[f0,f1,f2])) (o0:f0.offset=0) (o1:f1.offset=A.size) (o2:f2.offset=A.size+B.size)
  (s0:P.cellsOf f0.type=A.size) (s1:P.cellsOf f1.type=B.size) (s2:P.cellsOf f2.type=C.size) (s:P.cellsOf t=A.size+(B.size+C.size)) (h0:Opens enc P w f0.type A) (h1:Opens enc P w f1.type B) (h2:Opens enc P w f2.type C):Opens enc P w t (Rp.prod A (Rp.prod B C)):=fun fuel cs x h=>by
 obtain ⟨xs,n,_,_,hl,hxl,hf⟩:=DataW.trod_struct ht h
 have e0:=hf 0 f0 rfl
 have e1:=hf 1 f1 rfl
 have e2:=hf 2 f2 rfl
 have hxl':xs.length=3:=hxl
 rw [o0,s0,List.getElem?_eq_getElem (by omega)] at e0
 rw [o1,s1,List.getElem?_eq_getElem (by omega)] at e1
 rw [o2,s2,List.getElem?_eq_getElem (by omega)] at e2
 obtain ⟨a,fa,ra⟩:=h0 _ _ _ e0
 obtain ⟨b,fb,rb⟩:=h1 _ _ _ e1
 obtain ⟨c,fc,rc⟩:=h2 _ _ _ e2
 refine ⟨(a,b,c),fa++(fb++fc),_,cs.drop A.size,fa,fb++fc,?_,rfl,ra,_,_,fb,fc,?_,rfl,rb,rc⟩
 ·rw [List.drop_zero,List.take_append_drop]
 ·rw [<-List.drop_drop,List.take_of_length_le (show ((cs.drop A.size).drop B.size).length<=C.size by simp; omega),List.take_append_drop]
theorem oVec:Opens enc Tryz.prog w 165 RVec:=Opens.prod Tryz.underlying165 rfl rfl (by kernel_rfl) (by kernel_rfl) (by kernel_rfl) oInt oInt
theorem oVecS:Opens enc Tryz.prog w 83 RVecS:=Opens.slice Tryz.underlying83 (by kernel_rfl) oVec
theorem oTour:Opens enc Tryz.prog w 93 RTour:=Opens.prod3 Tryz.underlying93 rfl rfl rfl (by kernel_rfl) (by kernel_rfl) (by kernel_rfl) (by kernel_rfl) oVecS oPlacement oStepS
theorem oTourS:Opens enc Tryz.prog w 45 (Rp.slice RTour (by decide)):=Opens.slice Tryz.underlying45 (by kernel_rfl) oTour
end
end Go.Proofs.YtbnkojgcbmfloaaGreat

namespace Go.Proofs.YtbnkojgcbmfloaaGreat.DW
open Go.RowKit
set_option maxHeartbeats 8000000 in
theorem lawCountStates_fn (x0:DTourS):Fn Tryz.prog 5 [⟨.slice DW.tTour,x0⟩] false [⟨.bool,true⟩]:=by
 refine fe Tryz.func5 Tryz.ntmps5 Tryz.results5 fun hwf=>?_
 try simp (maxSteps:=9^9) only[go_sem]
 repeat refine AI ?_
 refine cw (szTourS_fn x0 1048576 (by omega) (by omega)) ?_
 try simp (maxSteps:=9^9) only[go_sem]
 repeat refine AI ?_
 have hr0:=szr_lo 1048576 ((x0.length+Go.Proofs.YtbnkojgcbmfloaaGreat.tTourS x0)) (by omega)
 refine CondW_dec (fun hlt=>?_) (fun hge0=>?_)
 ·try simp (maxSteps:=9^9) only[go_sem]
 have hge0':0<=szr 1048576 ((x0.length+Go.Proofs.YtbnkojgcbmfloaaGreat.tTourS x0)):=by omega
 have hs0:=(szr_ok hge0').1
 have hle0:(x0.length+Go.Proofs.YtbnkojgcbmfloaaGreat.tTourS x0)<=1048576:=by omega
 clear hr0 hs0 hge0 hge0'
 try simp (maxSteps:=9^9) only[go_sem]
 repeat refine AI ?_
 refine cw (toTourS_fn x0 hle0) ?_
 try simp (maxSteps:=9^9) only[go_sem]
 repeat refine AI ?_
 refine cw (CountStatesS_fn x0) ?_
 try simp (maxSteps:=9^9) only[go_sem]
 repeat refine AI ?_
 refine CallW.mx (toTourS_fn x0 hle0) ?_
 try simp (maxSteps:=9^9) only[go_sem]
 repeat refine AI ?_
 refine CallW.mx (CountStatesI_fn x0) ?_
 try simp (maxSteps:=9^9) only[go_sem]
 repeat refine AI ?_
 refine cw (toTourS_fn x0 hle0) ?_
 try simp (maxSteps:=9^9) only[go_sem]
 repeat refine AI ?_
 refine CallW.mx (eqTourS_fn x0 x0) ?_
 try simp (maxSteps:=9^9) only[go_sem]
 all_goals repeat refine AI ?_
 all_goals first|kernel_rfl|omega|rfl
end Go.Proofs.YtbnkojgcbmfloaaGreat.DW
namespace Go.Proofs.YtbnkojgcbmfloaaGreat
open Go.RowKit DW
theorem law_FnExactCountStates (a0:Value) (x0:DTourS) (w:World) (hx0:Has RTourS w [a0] x0) :
  Calls Tryz.prog 5 #[a0] w (Post fun r w'=>r=.bool true/\Below w.heap.size w w') :=
 (DW.lawCountStates_fn x0).bool (vs:=[a0]) ⟨Arg.sl hx0,trivial⟩
end Go.Proofs.YtbnkojgcbmfloaaGreat

namespace Go.Proofs.YtbnkojgcbmfloaaGreat.DW
open Go.RowKit
set_option maxHeartbeats 8000000 in
theorem lawCountDeadlocks_fn (x0:DTourS):Fn Tryz.prog 6 [⟨.slice DW.tTour,x0⟩] false [⟨.bool,true⟩]:=by
 refine fe Tryz.func6 Tryz.ntmps6 Tryz.results6 fun hwf=>?_
 try simp (maxSteps:=9^9) only[go_sem]
 repeat refine AI ?_
 refine cw (szTourS_fn x0 1048576 (by omega) (by omega)) ?_
 try simp (maxSteps:=9^9) only[go_sem]
 repeat refine AI ?_
 have hr0:=szr_lo 1048576 ((x0.length+Go.Proofs.YtbnkojgcbmfloaaGreat.tTourS x0)) (by omega)
 refine CondW_dec (fun hlt=>?_) (fun hge0=>?_)
 ·try simp (maxSteps:=9^9) only[go_sem]
 have hge0':0<=szr 1048576 ((x0.length+Go.Proofs.YtbnkojgcbmfloaaGreat.tTourS x0)):=by omega
 have hs0:=(szr_ok hge0').1
 have hle0:(x0.length+Go.Proofs.YtbnkojgcbmfloaaGreat.tTourS x0)<=1048576:=by omega
 clear hr0 hs0 hge0 hge0'
 try simp (maxSteps:=9^9) only[go_sem]
 repeat refine AI ?_
 refine cw (toTourS_fn x0 hle0) ?_
 try simp (maxSteps:=9^9) only[go_sem]
 repeat refine AI ?_
 refine cw (CountDeadlocksS_fn x0) ?_
 try simp (maxSteps:=9^9) only[go_sem]
 repeat refine AI ?_
 refine CallW.mx (toTourS_fn x0 hle0) ?_
 try simp (maxSteps:=9^9) only[go_sem]
 repeat refine AI ?_
 refine CallW.mx (CountDeadlocksI_fn x0) ?_
 try simp (maxSteps:=9^9) only[go_sem]
 repeat refine AI ?_
 refine cw (toTourS_fn x0 hle0) ?_
 try simp (maxSteps:=9^9) only[go_sem]
 repeat refine AI ?_
 refine CallW.mx (eqTourS_fn x0 x0) ?_
 try simp (maxSteps:=9^9) only[go_sem]
 all_goals repeat refine AI ?_
 all_goals first|kernel_rfl|omega|rfl
end Go.Proofs.YtbnkojgcbmfloaaGreat.DW
namespace Go.Proofs.YtbnkojgcbmfloaaGreat
open Go.RowKit DW
theorem law_FnExactCountDeadlocks (a0:Value) (x0:DTourS) (w:World) (hx0:Has RTourS w [a0] x0) :
  Calls Tryz.prog 6 #[a0] w (Post fun r w'=>r=.bool true/\Below w.heap.size w w') :=
 (DW.lawCountDeadlocks_fn x0).bool (vs:=[a0]) ⟨Arg.sl hx0,trivial⟩
end Go.Proofs.YtbnkojgcbmfloaaGreat
