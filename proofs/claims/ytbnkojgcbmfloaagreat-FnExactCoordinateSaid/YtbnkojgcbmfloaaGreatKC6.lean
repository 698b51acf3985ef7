/-
  Texts of a proof, one behind another: Dw58, Dw59, Sch, Dw61, Dw90, Dw91, Dw92, Dw93, Dw94, Dw95, Dw96, Dw97, Dw98, LwT, LwT2, MarkT, MarkT2, OpensT, CrdZ, LawCoordinate.
-/
import Derived.WideKeyPair
import Derived.DeepKeys4
import Derived.Test.YtbnkojgcbmfloaaGreatKC5
set_option linter.all false
set_option maxRecDepth 100000
namespace Go.Proofs.YtbnkojgcbmfloaaGreat.DW
open Go.RowKit
noncomputable def plT1 (l:List DT):tTabs.den:=((([],[],[]),([],[],[]),([],[],[])))
noncomputable def plD1 (l:List DT):tPlanner.den:=(l,(plT1 l,some 0))
set_option maxHeartbeats 4000000 in
theorem newPlanner_fn1 (l:List DT) (hl:l.length=1):FnNP Tryz.prog 33 [⟨.slice tTour,l⟩] tPl0 (l,plT1 l):=by
 unfold plT1
 refine fnNP_enter tabOK mixes Tryz.func33 rfl rfl _ Tryz.ntmps33 _ Tryz.results33 (by simp) fun hwf=>?_
 try simp (maxSteps:=9^9) only[go_sem]
 repeat refine AI ?_
 refine LoopG.intro _ _ _ (fun y:Nat=>match y with|0=>⟨[(0,.sl tTour l),(3,.ptr 1 0),(12,.sl tTour l),(13,.sc (.int .i64 l.length)),(14,.sc (.int .i64 0))],[(0,.ob none 0 (.map [])),(1,.box [.sl tTour l,.sl (.slice .bool) ([]),.sl (.slice .bool) ([]),.sl (.slice .bool) ([]),.sl (.slice .bool) ([]),.sl (.slice .bool) ([]),.sl (.slice .bool) ([]),.sl (.slice .bool) ([]),.sl (.slice .bool) ([]),.sl (.slice .bool) ([]),.row 0 0])]⟩|_=>⟨[(0,.sl tTour l),(3,.ptr 1 0),(12,.sl tTour l),(13,.sc (.int .i64 l.length)),(14,.sc (.int .i64 1))],[(0,.ob none 0 (.map [])),(1,.box [.sl tTour l,.sl (.slice .bool) ([]),.sl (.slice .bool) ([]),.sl (.slice .bool) ([]),.sl (.slice .bool) ([]),.sl (.slice .bool) ([]),.sl (.slice .bool) ([]),.sl (.slice .bool) ([]),.sl (.slice .bool) ([]),.sl (.slice .bool) ([]),.row 0 0])]⟩) (fun y=>y<=1) (fun y=>1 - y) 0 ?_ (Nat.zero_le _) ?_
 ·exact WK
 ·rintro y hy
  obtain rfl|rfl:y=0\/y=1:=by omega
  ·try simp (maxSteps:=9^9) only[go_sem]
   refine CondW_dec (fun hA=>?_) (fun hA=>absurd (by rw [hl]; decide) hA)
   try simp (maxSteps:=9^9) only[go_sem]
   repeat refine AI ?_
   refine LoopG.intro _ _ _ (fun z:Nat=>match z with|0=>⟨[(0,.sl tTour l),(3,.ptr 1 0),(4,.sc (.int .i64 0)),(5,.ptr 2 0),(12,.sl tTour l),(13,.sc (.int .i64 l.length)),(14,.sc (.int .i64 0)),(19,.sl tTour l),(20,.sc (.int .i64 l.length)),(21,.sc (.int .i64 0))],[(0,.ob none 0 (.map [])),(1,.box [.sl tTour l,.sl (.slice .bool) ([]),.sl (.slice .bool) ([]),.sl (.slice .bool) ([]),.sl (.slice .bool) ([]),.sl (.slice .bool) ([]),.sl (.slice .bool) ([]),.sl (.slice .bool) ([]),.sl (.slice .bool) ([]),.sl (.slice .bool) ([]),.row 0 0]),(2,.box (cel tTour (nth (t:=tTour) l 0)))]⟩|_=>⟨[(0,.sl tTour l),(3,.ptr 1 0),(4,.sc (.int .i64 0)),(5,.ptr 2 0),(12,.sl tTour l),(13,.sc (.int .i64 l.length)),(14,.sc (.int .i64 0)),(19,.sl tTour l),(20,.sc (.int .i64 l.length)),(21,.sc (.int .i64 1))],[(0,.ob none 0 (.map [])),(1,.box [.sl tTour l,.sl (.slice .bool) ([]),.sl (.slice .bool) ([]),.sl (.slice .bool) ([]),.sl (.slice .bool) ([]),.sl (.slice .bool) ([]),.sl (.slice .bool) ([]),.sl (.slice .bool) ([]),.sl (.slice .bool) ([]),.sl (.slice .bool) ([]),.row 0 0]),(2,.box (cel tTour (nth (t:=tTour) l 0)))]⟩) (fun z=>z<=1) (fun z=>1 - z) 0 ?_ (Nat.zero_le _) ?_
   ·exact WK
   ·rintro z hz
    obtain rfl|rfl:z=0\/z=1:=by omega
    ·try simp (maxSteps:=9^9) only[go_sem]
     refine CondW_dec (fun hB=>?_) (fun hB=>absurd (by rw [hl]; decide) hB)
     try simp (maxSteps:=9^9) only[go_sem]
     repeat refine AI ?_
     refine LoopK.mk 1 ?_ (by omega) (by omega)
     exact WK
    ·try simp (maxSteps:=9^9) only[go_sem]
     refine CondW_dec (fun hB=>by rw [hl] at hB; exact absurd hB (by decide)) (fun hB=>?_)
     try simp (maxSteps:=9^9) only[go_sem]
     repeat refine AI ?_
     refine LoopK.mk 1 ?_ (by omega) (by omega)
     exact WK
  ·try simp (maxSteps:=9^9) only[go_sem]
   refine CondW_dec (fun hA=>by rw [hl] at hA; exact absurd hA (by decide)) (fun hA=>?_)
   try simp (maxSteps:=9^9) only[go_sem]
   all_goals repeat refine AI ?_
   all_goals first|kernel_rfl|omega|rfl
noncomputable def plT2 (l:List DT):tTabs.den:=((([],tabD (nth (t:=tTour) l 0) (nth (t:=tTour) l 1),[]),(tabD (nth (t:=tTour) l 1) (nth (t:=tTour) l 0),[],[]),([],[],[])))
noncomputable def plD2 (l:List DT):tPlanner.den:=(l,(plT2 l,some 0))
set_option maxHeartbeats 4000000 in
theorem newPlanner_fn2 (l:List DT) (hl:l.length=2):FnNP Tryz.prog 33 [⟨.slice tTour,l⟩] tPl0 (l,plT2 l):=by
 unfold plT2
 refine fnNP_enter tabOK mixes Tryz.func33 rfl rfl _ Tryz.ntmps33 _ Tryz.results33 (by simp) fun hwf=>?_
 try simp (maxSteps:=9^9) only[go_sem]
 repeat refine AI ?_
 refine LoopG.intro _ _ _ (fun y:Nat=>match y with|0=>⟨[(0,.sl tTour l),(3,.ptr 1 0),(12,.sl tTour l),(13,.sc (.int .i64 l.length)),(14,.sc (.int .i64 0))],[(0,.ob none 0 (.map [])),(1,.box [.sl tTour l,.sl (.slice .bool) ([]),.sl (.slice .bool) ([]),.sl (.slice .bool) ([]),.sl (.slice .bool) ([]),.sl (.slice .bool) ([]),.sl (.slice .bool) ([]),.sl (.slice .bool) ([]),.sl (.slice .bool) ([]),.sl (.slice .bool) ([]),.row 0 0])]⟩|1=>⟨[(0,.sl tTour l),(3,.ptr 1 0),(12,.sl tTour l),(13,.sc (.int .i64 l.length)),(14,.sc (.int .i64 1))],[(0,.ob none 0 (.map [])),(1,.box [.sl tTour l,.sl (.slice .bool) ([]),.sl (.slice .bool) (tabD (nth (t:=tTour) l 0) (nth (t:=tTour) l 1)),.sl (.slice .bool) ([]),.sl (.slice .bool) ([]),.sl (.slice .bool) ([]),.sl (.slice .bool) ([]),.sl (.slice .bool) ([]),.sl (.slice .bool) ([]),.sl (.slice .bool) ([]),.row 0 0])]⟩|_=>⟨[(0,.sl tTour l),(3,.ptr 1 0),(12,.sl tTour l),(13,.sc (.int .i64 l.length)),(14,.sc (.int .i64 2))],[(0,.ob none 0 (.map [])),(1,.box [.sl tTour l,.sl (.slice .bool) ([]),.sl (.slice .bool) (tabD (nth (t:=tTour) l 0) (nth (t:=tTour) l 1)),.sl (.slice .bool) ([]),.sl (.slice .bool) (tabD (nth (t:=tTour) l 1) (nth (t:=tTour) l 0)),.sl (.slice .bool) ([]),.sl (.slice .bool) ([]),.sl (.slice .bool) ([]),.sl (.slice .bool) ([]),.sl (.slice .bool) ([]),.row 0 0])]⟩) (fun y=>y<=2) (fun y=>2 - y) 0 ?_ (Nat.zero_le _) ?_
 ·exact WK
 ·rintro y hy
  obtain rfl|rfl|rfl:y=0\/y=1\/y=2:=by omega
  ·try simp (maxSteps:=9^9) only[go_sem]
   refine CondW_dec (fun hA=>?_) (fun hA=>absurd (by rw [hl]; decide) hA)
   try simp (maxSteps:=9^9) only[go_sem]
   repeat refine AI ?_
   refine LoopG.intro _ _ _ (fun z:Nat=>match z with|0=>⟨[(0,.sl tTour l),(3,.ptr 1 0),(4,.sc (.int .i64 0)),(5,.ptr 2 0),(12,.sl tTour l),(13,.sc (.int .i64 l.length)),(14,.sc (.int .i64 0)),(19,.sl tTour l),(20,.sc (.int .i64 l.length)),(21,.sc (.int .i64 0))],[(0,.ob none 0 (.map [])),(1,.box [.sl tTour l,.sl (.slice .bool) ([]),.sl (.slice .bool) ([]),.sl (.slice .bool) ([]),.sl (.slice .bool) ([]),.sl (.slice .bool) ([]),.sl (.slice .bool) ([]),.sl (.slice .bool) ([]),.sl (.slice .bool) ([]),.sl (.slice .bool) ([]),.row 0 0]),(2,.box (cel tTour (nth (t:=tTour) l 0)))]⟩|1=>⟨[(0,.sl tTour l),(3,.ptr 1 0),(4,.sc (.int .i64 0)),(5,.ptr 2 0),(12,.sl tTour l),(13,.sc (.int .i64 l.length)),(14,.sc (.int .i64 0)),(19,.sl tTour l),(20,.sc (.int .i64 l.length)),(21,.sc (.int .i64 1))],[(0,.ob none 0 (.map [])),(1,.box [.sl tTour l,.sl (.slice .bool) ([]),.sl (.slice .bool) ([]),.sl (.slice .bool) ([]),.sl (.slice .bool) ([]),.sl (.slice .bool) ([]),.sl (.slice .bool) ([]),.sl (.slice .bool) ([]),.sl (.slice .bool) ([]),.sl (.slice .bool) ([]),.row 0 0]),(2,.box (cel tTour (nth (t:=tTour) l 0)))]⟩|_=>⟨[(0,.sl tTour l),(3,.ptr 1 0),(4,.sc (.int .i64 0)),(5,.ptr 2 0),(12,.sl tTour l),(13,.sc (.int .i64 l.length)),(14,.sc (.int .i64 0)),(19,.sl tTour l),(20,.sc (.int .i64 l.length)),(21,.sc (.int .i64 2))],[(0,.ob none 0 (.map [])),(1,.box [.sl tTour l,.sl (.slice .bool) ([]),.sl (.slice .bool) (tabD (nth (t:=tTour) l 0) (nth (t:=tTour) l 1)),.sl (.slice .bool) ([]),.sl (.slice .bool) ([]),.sl (.slice .bool) ([]),.sl (.slice .bool) ([]),.sl (.slice .bool) ([]),.sl (.slice .bool) ([]),.sl (.slice .bool) ([]),.row 0 0]),(2,.box (cel tTour (nth (t:=tTour) l 0)))]⟩) (fun z=>z<=2) (fun z=>2 - z) 0 ?_ (Nat.zero_le _) ?_
   ·exact WK
   ·rintro z hz
    obtain rfl|rfl|rfl:z=0\/z=1\/z=2:=by omega
    ·try simp (maxSteps:=9^9) only[go_sem]
     refine CondW_dec (fun hB=>?_) (fun hB=>absurd (by rw [hl]; decide) hB)
     try simp (maxSteps:=9^9) only[go_sem]
     repeat refine AI ?_
     refine LoopK.mk 1 ?_ (by omega) (by omega)
     exact WK
    ·try simp (maxSteps:=9^9) only[go_sem]
     refine CondW_dec (fun hB=>?_) (fun hB=>absurd (by rw [hl]; decide) hB)
     have c1:=(TouchTableI_fn (nth (t:=tTour) l 0) (nth (t:=tTour) l 1)).sh
     try simp (maxSteps:=9^9) only[go_sem]
     repeat refine AI ?_
     repeat refine AI ?_
     refine cw c1 ?_
     try simp (maxSteps:=9^9) only[go_sem]
     repeat refine AI ?_
     refine LoopK.mk 2 ?_ (by omega) (by omega)
     exact WK
    ·try simp (maxSteps:=9^9) only[go_sem]
     refine CondW_dec (fun hB=>by rw [hl] at hB; exact absurd hB (by decide)) (fun hB=>?_)
     try simp (maxSteps:=9^9) only[go_sem]
     repeat refine AI ?_
     refine LoopK.mk 1 ?_ (by omega) (by omega)
     exact WK
  ·try simp (maxSteps:=9^9) only[go_sem]
   refine CondW_dec (fun hA=>?_) (fun hA=>absurd (by rw [hl]; decide) hA)
   try simp (maxSteps:=9^9) only[go_sem]
   repeat refine AI ?_
   refine LoopG.intro _ _ _ (fun z:Nat=>match z with|0=>⟨[(0,.sl tTour l),(3,.ptr 1 0),(4,.sc (.int .i64 1)),(5,.ptr 2 0),(12,.sl tTour l),(13,.sc (.int .i64 l.length)),(14,.sc (.int .i64 1)),(19,.sl tTour l),(20,.sc (.int .i64 l.length)),(21,.sc (.int .i64 0))],[(0,.ob none 0 (.map [])),(1,.box [.sl tTour l,.sl (.slice .bool) ([]),.sl (.slice .bool) (tabD (nth (t:=tTour) l 0) (nth (t:=tTour) l 1)),.sl (.slice .bool) ([]),.sl (.slice .bool) ([]),.sl (.slice .bool) ([]),.sl (.slice .bool) ([]),.sl (.slice .bool) ([]),.sl (.slice .bool) ([]),.sl (.slice .bool) ([]),.row 0 0]),(2,.box (cel tTour (nth (t:=tTour) l 1)))]⟩|1=>⟨[(0,.sl tTour l),(3,.ptr 1 0),(4,.sc (.int .i64 1)),(5,.ptr 2 0),(12,.sl tTour l),(13,.sc (.int .i64 l.length)),(14,.sc (.int .i64 1)),(19,.sl tTour l),(20,.sc (.int .i64 l.length)),(21,.sc (.int .i64 1))],[(0,.ob none 0 (.map [])),(1,.box [.sl tTour l,.sl (.slice .bool) ([]),.sl (.slice .bool) (tabD (nth (t:=tTour) l 0) (nth (t:=tTour) l 1)),.sl (.slice .bool) ([]),.sl (.slice .bool) (tabD (nth (t:=tTour) l 1) (nth (t:=tTour) l 0)),.sl (.slice .bool) ([]),.sl (.slice .bool) ([]),.sl (.slice .bool) ([]),.sl (.slice .bool) ([]),.sl (.slice .bool) ([]),.row 0 0]),(2,.box (cel tTour (nth (t:=tTour) l 1)))]⟩|_=>⟨[(0,.sl tTour l),(3,.ptr 1 0),(4,.sc (.int .i64 1)),(5,.ptr 2 0),(12,.sl tTour l),(13,.sc (.int .i64 l.length)),(14,.sc (.int .i64 1)),(19,.sl tTour l),(20,.sc (.int .i64 l.length)),(21,.sc (.int .i64 2))],[(0,.ob none 0 (.map [])),(1,.box [.sl tTour l,.sl (.slice .bool) ([]),.sl (.slice .bool) (tabD (nth (t:=tTour) l 0) (nth (t:=tTour) l 1)),.sl (.slice .bool) ([]),.sl (.slice .bool) (tabD (nth (t:=tTour) l 1) (nth (t:=tTour) l 0)),.sl (.slice .bool) ([]),.sl (.slice .bool) ([]),.sl (.slice .bool) ([]),.sl (.slice .bool) ([]),.sl (.slice .bool) ([]),.row 0 0]),(2,.box (cel tTour (nth (t:=tTour) l 1)))]⟩) (fun z=>z<=2) (fun z=>2 - z) 0 ?_ (Nat.zero_le _) ?_
   ·exact WK
   ·rintro z hz
    obtain rfl|rfl|rfl:z=0\/z=1\/z=2:=by omega
    ·try simp (maxSteps:=9^9) only[go_sem]
     refine CondW_dec (fun hB=>?_) (fun hB=>absurd (by rw [hl]; decide) hB)
     have c1:=(TouchTableI_fn (nth (t:=tTour) l 1) (nth (t:=tTour) l 0)).sh
     try simp (maxSteps:=9^9) only[go_sem]
     repeat refine AI ?_
     repeat refine AI ?_
     refine cw c1 ?_
     try simp (maxSteps:=9^9) only[go_sem]
     repeat refine AI ?_
     refine LoopK.mk 1 ?_ (by omega) (by omega)
     exact WK
    ·try simp (maxSteps:=9^9) only[go_sem]
     refine CondW_dec (fun hB=>?_) (fun hB=>absurd (by rw [hl]; decide) hB)
     try simp (maxSteps:=9^9) only[go_sem]
     repeat refine AI ?_
     refine LoopK.mk 2 ?_ (by omega) (by omega)
     exact WK
    ·try simp (maxSteps:=9^9) only[go_sem]
     refine CondW_dec (fun hB=>by rw [hl] at hB; exact absurd hB (by decide)) (fun hB=>?_)
     try simp (maxSteps:=9^9) only[go_sem]
     repeat refine AI ?_
     refine LoopK.mk 2 ?_ (by omega) (by omega)
     exact WK
  ·try simp (maxSteps:=9^9) only[go_sem]
   refine CondW_dec (fun hA=>by rw [hl] at hA; exact absurd hA (by decide)) (fun hA=>?_)
   try simp (maxSteps:=9^9) only[go_sem]
   all_goals repeat refine AI ?_
   all_goals first|kernel_rfl|omega|rfl
noncomputable def plT3 (l:List DT):tTabs.den:=((([],tabD (nth (t:=tTour) l 0) (nth (t:=tTour) l 1),tabD (nth (t:=tTour) l 0) (nth (t:=tTour) l 2)),(tabD (nth (t:=tTour) l 1) (nth (t:=tTour) l 0),[],tabD (nth (t:=tTour) l 1) (nth (t:=tTour) l 2)),(tabD (nth (t:=tTour) l 2) (nth (t:=tTour) l 0),tabD (nth (t:=tTour) l 2) (nth (t:=tTour) l 1),[])))
noncomputable def plD3 (l:List DT):tPlanner.den:=(l,(plT3 l,some 0))
set_option maxHeartbeats 4000000 in
theorem newPlanner_fn3 (l:List DT) (hl:l.length=3):FnNP Tryz.prog 33 [⟨.slice tTour,l⟩] tPl0 (l,plT3 l):=by
 unfold plT3
 refine fnNP_enter tabOK mixes Tryz.func33 rfl rfl _ Tryz.ntmps33 _ Tryz.results33 (by simp) fun hwf=>?_
 try simp (maxSteps:=9^9) only[go_sem]
 repeat refine AI ?_
 refine LoopG.intro _ _ _ (fun y:Nat=>match y with|0=>⟨[(0,.sl tTour l),(3,.ptr 1 0),(12,.sl tTour l),(13,.sc (.int .i64 l.length)),(14,.sc (.int .i64 0))],[(0,.ob none 0 (.map [])),(1,.box [.sl tTour l,.sl (.slice .bool) ([]),.sl (.slice .bool) ([]),.sl (.slice .bool) ([]),.sl (.slice .bool) ([]),.sl (.slice .bool) ([]),.sl (.slice .bool) ([]),.sl (.slice .bool) ([]),.sl (.slice .bool) ([]),.sl (.slice .bool) ([]),.row 0 0])]⟩|1=>⟨[(0,.sl tTour l),(3,.ptr 1 0),(12,.sl tTour l),(13,.sc (.int .i64 l.length)),(14,.sc (.int .i64 1))],[(0,.ob none 0 (.map [])),(1,.box [.sl tTour l,.sl (.slice .bool) ([]),.sl (.slice .bool) (tabD (nth (t:=tTour) l 0) (nth (t:=tTour) l 1)),.sl (.slice .bool) (tabD (nth (t:=tTour) l 0) (nth (t:=tTour) l 2)),.sl (.slice .bool) ([]),.sl (.slice .bool) ([]),.sl (.slice .bool) ([]),.sl (.slice .bool) ([]),.sl (.slice .bool) ([]),.sl (.slice .bool) ([]),.row 0 0])]⟩|2=>⟨[(0,.sl tTour l),(3,.ptr 1 0),(12,.sl tTour l),(13,.sc (.int .i64 l.length)),(14,.sc (.int .i64 2))],[(0,.ob none 0 (.map [])),(1,.box [.sl tTour l,.sl (.slice .bool) ([]),.sl (.slice .bool) (tabD (nth (t:=tTour) l 0) (nth (t:=tTour) l 1)),.sl (.slice .bool) (tabD (nth (t:=tTour) l 0) (nth (t:=tTour) l 2)),.sl (.slice .bool) (tabD (nth (t:=tTour) l 1) (nth (t:=tTour) l 0)),.sl (.slice .bool) ([]),.sl (.slice .bool) (tabD (nth (t:=tTour) l 1) (nth (t:=tTour) l 2)),.sl (.slice .bool) ([]),.sl (.slice .bool) ([]),.sl (.slice .bool) ([]),.row 0 0])]⟩|_=>⟨[(0,.sl tTour l),(3,.ptr 1 0),(12,.sl tTour l),(13,.sc (.int .i64 l.length)),(14,.sc (.int .i64 3))],[(0,.ob none 0 (.map [])),(1,.box [.sl tTour l,.sl (.slice .bool) ([]),.sl (.slice .bool) (tabD (nth (t:=tTour) l 0) (nth (t:=tTour) l 1)),.sl (.slice .bool) (tabD (nth (t:=tTour) l 0) (nth (t:=tTour) l 2)),.sl (.slice .bool) (tabD (nth (t:=tTour) l 1) (nth (t:=tTour) l 0)),.sl (.slice .bool) ([]),.sl (.slice .bool) (tabD (nth (t:=tTour) l 1) (nth (t:=tTour) l 2)),.sl (.slice .bool) (tabD (nth (t:=tTour) l 2) (nth (t:=tTour) l 0)),.sl (.slice .bool) (tabD (nth (t:=tTour) l 2) (nth (t:=tTour) l 1)),.sl (.slice .bool) ([]),.row 0 0])]⟩) (fun y=>y<=3) (fun y=>3 - y) 0 ?_ (Nat.zero_le _) ?_
 ·exact WK
 ·rintro y hy
  obtain rfl|rfl|rfl|rfl:y=0\/y=1\/y=2\/y=3:=by omega
  ·try simp (maxSteps:=9^9) only[go_sem]
   refine CondW_dec (fun hA=>?_) (fun hA=>absurd (by rw [hl]; decide) hA)
   try simp (maxSteps:=9^9) only[go_sem]
   repeat refine AI ?_
   refine LoopG.intro _ _ _ (fun z:Nat=>match z with|0=>⟨[(0,.sl tTour l),(3,.ptr 1 0),(4,.sc (.int .i64 0)),(5,.ptr 2 0),(12,.sl tTour l),(13,.sc (.int .i64 l.length)),(14,.sc (.int .i64 0)),(19,.sl tTour l),(20,.sc (.int .i64 l.length)),(21,.sc (.int .i64 0))],[(0,.ob none 0 (.map [])),(1,.box [.sl tTour l,.sl (.slice .bool) ([]),.sl (.slice .bool) ([]),.sl (.slice .bool) ([]),.sl (.slice .bool) ([]),.sl (.slice .bool) ([]),.sl (.slice .bool) ([]),.sl (.slice .bool) ([]),.sl (.slice .bool) ([]),.sl (.slice .bool) ([]),.row 0 0]),(2,.box (cel tTour (nth (t:=tTour) l 0)))]⟩|1=>⟨[(0,.sl tTour l),(3,.ptr 1 0),(4,.sc (.int .i64 0)),(5,.ptr 2 0),(12,.sl tTour l),(13,.sc (.int .i64 l.length)),(14,.sc (.int .i64 0)),(19,.sl tTour l),(20,.sc (.int .i64 l.length)),(21,.sc (.int .i64 1))],[(0,.ob none 0 (.map [])),(1,.box [.sl tTour l,.sl (.slice .bool) ([]),.sl (.slice .bool) ([]),.sl (.slice .bool) ([]),.sl (.slice .bool) ([]),.sl (.slice .bool) ([]),.sl (.slice .bool) ([]),.sl (.slice .bool) ([]),.sl (.slice .bool) ([]),.sl (.slice .bool) ([]),.row 0 0]),(2,.box (cel tTour (nth (t:=tTour) l 0)))]⟩|2=>⟨[(0,.sl tTour l),(3,.ptr 1 0),(4,.sc (.int .i64 0)),(5,.ptr 2 0),(12,.sl tTour l),(13,.sc (.int .i64 l.length)),(14,.sc (.int .i64 0)),(19,.sl tTour l),(20,.sc (.int .i64 l.length)),(21,.sc (.int .i64 2))],[(0,.ob none 0 (.map [])),(1,.box [.sl tTour l,.sl (.slice .bool) ([]),.sl (.slice .bool) (tabD (nth (t:=tTour) l 0) (nth (t:=tTour) l 1)),.sl (.slice .bool) ([]),.sl (.slice .bool) ([]),.sl (.slice .bool) ([]),.sl (.slice .bool) ([]),.sl (.slice .bool) ([]),.sl (.slice .bool) ([]),.sl (.slice .bool) ([]),.row 0 0]),(2,.box (cel tTour (nth (t:=tTour) l 0)))]⟩|_=>⟨[(0,.sl tTour l),(3,.ptr 1 0),(4,.sc (.int .i64 0)),(5,.ptr 2 0),(12,.sl tTour l),(13,.sc (.int .i64 l.length)),(14,.sc (.int .i64 0)),(19,.sl tTour l),(20,.sc (.int .i64 l.length)),(21,.sc (.int .i64 3))],[(0,.ob none 0 (.map [])),(1,.box [.sl tTour l,.sl (.slice .bool) ([]),.sl (.slice .bool) (tabD (nth (t:=tTour) l 0) (nth (t:=tTour) l 1)),.sl (.slice .bool) (tabD (nth (t:=tTour) l 0) (nth (t:=tTour) l 2)),.sl (.slice .bool) ([]),.sl (.slice .bool) ([]),.sl (.slice .bool) ([]),.sl (.slice .bool) ([]),.sl (.slice .bool) ([]),.sl (.slice .bool) ([]),.row 0 0]),(2,.box (cel tTour (nth (t:=tTour) l 0)))]⟩) (fun z=>z<=3) (fun z=>3 - z) 0 ?_ (Nat.zero_le _) ?_
   ·exact WK
   ·rintro z hz
    obtain rfl|rfl|rfl|rfl:z=0\/z=1\/z=2\/z=3:=by omega
    ·try simp (maxSteps:=9^9) only[go_sem]
     refine CondW_dec (fun hB=>?_) (fun hB=>absurd (by rw [hl]; decide) hB)
     try simp (maxSteps:=9^9) only[go_sem]
     repeat refine AI ?_
     refine LoopK.mk 1 ?_ (by omega) (by omega)
     exact WK
    ·try simp (maxSteps:=9^9) only[go_sem]
     refine CondW_dec (fun hB=>?_) (fun hB=>absurd (by rw [hl]; decide) hB)
     have c1:=(TouchTableI_fn (nth (t:=tTour) l 0) (nth (t:=tTour) l 1)).sh
     try simp (maxSteps:=9^9) only[go_sem]
     repeat refine AI ?_
     repeat refine AI ?_
     refine cw c1 ?_
     try simp (maxSteps:=9^9) only[go_sem]
     repeat refine AI ?_
     refine LoopK.mk 2 ?_ (by omega) (by omega)
     exact WK
    ·try simp (maxSteps:=9^9) only[go_sem]
     refine CondW_dec (fun hB=>?_) (fun hB=>absurd (by rw [hl]; decide) hB)
     have c1:=(TouchTableI_fn (nth (t:=tTour) l 0) (nth (t:=tTour) l 2)).sh
     try simp (maxSteps:=9^9) only[go_sem]
     repeat refine AI ?_
     repeat refine AI ?_
     refine cw c1 ?_
     try simp (maxSteps:=9^9) only[go_sem]
     repeat refine AI ?_
     refine LoopK.mk 3 ?_ (by omega) (by omega)
     exact WK
    ·try simp (maxSteps:=9^9) only[go_sem]
     refine CondW_dec (fun hB=>by rw [hl] at hB; exact absurd hB (by decide)) (fun hB=>?_)
     try simp (maxSteps:=9^9) only[go_sem]
     repeat refine AI ?_
     refine LoopK.mk 1 ?_ (by omega) (by omega)
     exact WK
  ·try simp (maxSteps:=9^9) only[go_sem]
   refine CondW_dec (fun hA=>?_) (fun hA=>absurd (by rw [hl]; decide) hA)
   try simp (maxSteps:=9^9) only[go_sem]
   repeat refine AI ?_
   refine LoopG.intro _ _ _ (fun z:Nat=>match z with|0=>⟨[(0,.sl tTour l),(3,.ptr 1 0),(4,.sc (.int .i64 1)),(5,.ptr 2 0),(12,.sl tTour l),(13,.sc (.int .i64 l.length)),(14,.sc (.int .i64 1)),(19,.sl tTour l),(20,.sc (.int .i64 l.length)),(21,.sc (.int .i64 0))],[(0,.ob none 0 (.map [])),(1,.box [.sl tTour l,.sl (.slice .bool) ([]),.sl (.slice .bool) (tabD (nth (t:=tTour) l 0) (nth (t:=tTour) l 1)),.sl (.slice .bool) (tabD (nth (t:=tTour) l 0) (nth (t:=tTour) l 2)),.sl (.slice .bool) ([]),.sl (.slice .bool) ([]),.sl (.slice .bool) ([]),.sl (.slice .bool) ([]),.sl (.slice .bool) ([]),.sl (.slice .bool) ([]),.row 0 0]),(2,.box (cel tTour (nth (t:=tTour) l 1)))]⟩|1=>⟨[(0,.sl tTour l),(3,.ptr 1 0),(4,.sc (.int .i64 1)),(5,.ptr 2 0),(12,.sl tTour l),(13,.sc (.int .i64 l.length)),(14,.sc (.int .i64 1)),(19,.sl tTour l),(20,.sc (.int .i64 l.length)),(21,.sc (.int .i64 1))],[(0,.ob none 0 (.map [])),(1,.box [.sl tTour l,.sl (.slice .bool) ([]),.sl (.slice .bool) (tabD (nth (t:=tTour) l 0) (nth (t:=tTour) l 1)),.sl (.slice .bool) (tabD (nth (t:=tTour) l 0) (nth (t:=tTour) l 2)),.sl (.slice .bool) (tabD (nth (t:=tTour) l 1) (nth (t:=tTour) l 0)),.sl (.slice .bool) ([]),.sl (.slice .bool) ([]),.sl (.slice .bool) ([]),.sl (.slice .bool) ([]),.sl (.slice .bool) ([]),.row 0 0]),(2,.box (cel tTour (nth (t:=tTour) l 1)))]⟩|2=>⟨[(0,.sl tTour l),(3,.ptr 1 0),(4,.sc (.int .i64 1)),(5,.ptr 2 0),(12,.sl tTour l),(13,.sc (.int .i64 l.length)),(14,.sc (.int .i64 1)),(19,.sl tTour l),(20,.sc (.int .i64 l.length)),(21,.sc (.int .i64 2))],[(0,.ob none 0 (.map [])),(1,.box [.sl tTour l,.sl (.slice .bool) ([]),.sl (.slice .bool) (tabD (nth (t:=tTour) l 0) (nth (t:=tTour) l 1)),.sl (.slice .bool) (tabD (nth (t:=tTour) l 0) (nth (t:=tTour) l 2)),.sl (.slice .bool) (tabD (nth (t:=tTour) l 1) (nth (t:=tTour) l 0)),.sl (.slice .bool) ([]),.sl (.slice .bool) ([]),.sl (.slice .bool) ([]),.sl (.slice .bool) ([]),.sl (.slice .bool) ([]),.row 0 0]),(2,.box (cel tTour (nth (t:=tTour) l 1)))]⟩|_=>⟨[(0,.sl tTour l),(3,.ptr 1 0),(4,.sc (.int .i64 1)),(5,.ptr 2 0),(12,.sl tTour l),(13,.sc (.int .i64 l.length)),(14,.sc (.int .i64 1)),(19,.sl tTour l),(20,.sc (.int .i64 l.length)),(21,.sc (.int .i64 3))],[(0,.ob none 0 (.map [])),(1,.box [.sl tTour l,.sl (.slice .bool) ([]),.sl (.slice .bool) (tabD (nth (t:=tTour) l 0) (nth (t:=tTour) l 1)),.sl (.slice .bool) (tabD (nth (t:=tTour) l 0) (nth (t:=tTour) l 2)),.sl (.slice .bool) (tabD (nth (t:=tTour) l 1) (nth (t:=tTour) l 0)),.sl (.slice .bool) ([]),.sl (.slice .bool) (tabD (nth (t:=tTour) l 1) (nth (t:=tTour) l 2)),.sl (.slice .bool) ([]),.sl (.slice .bool) ([]),.sl (.slice .bool) ([]),.row 0 0]),(2,.box (cel tTour (nth (t:=tTour) l 1)))]⟩) (fun z=>z<=3) (fun z=>3 - z) 0 ?_ (Nat.zero_le _) ?_
   ·exact WK
   ·rintro z hz
    obtain rfl|rfl|rfl|rfl:z=0\/z=1\/z=2\/z=3:=by omega
    ·try simp (maxSteps:=9^9) only[go_sem]
     refine CondW_dec (fun hB=>?_) (fun hB=>absurd (by rw [hl]; decide) hB)
     have c1:=(TouchTableI_fn (nth (t:=tTour) l 1) (nth (t:=tTour) l 0)).sh
     try simp (maxSteps:=9^9) only[go_sem]
     repeat refine AI ?_
     repeat refine AI ?_
     refine cw c1 ?_
     try simp (maxSteps:=9^9) only[go_sem]
     repeat refine AI ?_
     refine LoopK.mk 1 ?_ (by omega) (by omega)
     exact WK
    ·try simp (maxSteps:=9^9) only[go_sem]
     refine CondW_dec (fun hB=>?_) (fun hB=>absurd (by rw [hl]; decide) hB)
     try simp (maxSteps:=9^9) only[go_sem]
     repeat refine AI ?_
     refine LoopK.mk 2 ?_ (by omega) (by omega)
     exact WK
    ·try simp (maxSteps:=9^9) only[go_sem]
     refine CondW_dec (fun hB=>?_) (fun hB=>absurd (by rw [hl]; decide) hB)
     have c1:=(TouchTableI_fn (nth (t:=tTour) l 1) (nth (t:=tTour) l 2)).sh
     try simp (maxSteps:=9^9) only[go_sem]
     repeat refine AI ?_
     repeat refine AI ?_
     refine cw c1 ?_
     try simp (maxSteps:=9^9) only[go_sem]
     repeat refine AI ?_
     refine LoopK.mk 3 ?_ (by omega) (by omega)
     exact WK
    ·try simp (maxSteps:=9^9) only[go_sem]
     refine CondW_dec (fun hB=>by rw [hl] at hB; exact absurd hB (by decide)) (fun hB=>?_)
     try simp (maxSteps:=9^9) only[go_sem]
     repeat refine AI ?_
     refine LoopK.mk 2 ?_ (by omega) (by omega)
     exact WK
  ·try simp (maxSteps:=9^9) only[go_sem]
   refine CondW_dec (fun hA=>?_) (fun hA=>absurd (by rw [hl]; decide) hA)
   try simp (maxSteps:=9^9) only[go_sem]
   repeat refine AI ?_
   refine LoopG.intro _ _ _ (fun z:Nat=>match z with|0=>⟨[(0,.sl tTour l),(3,.ptr 1 0),(4,.sc (.int .i64 2)),(5,.ptr 2 0),(12,.sl tTour l),(13,.sc (.int .i64 l.length)),(14,.sc (.int .i64 2)),(19,.sl tTour l),(20,.sc (.int .i64 l.length)),(21,.sc (.int .i64 0))],[(0,.ob none 0 (.map [])),(1,.box [.sl tTour l,.sl (.slice .bool) ([]),.sl (.slice .bool) (tabD (nth (t:=tTour) l 0) (nth (t:=tTour) l 1)),.sl (.slice .bool) (tabD (nth (t:=tTour) l 0) (nth (t:=tTour) l 2)),.sl (.slice .bool) (tabD (nth (t:=tTour) l 1) (nth (t:=tTour) l 0)),.sl (.slice .bool) ([]),.sl (.slice .bool) (tabD (nth (t:=tTour) l 1) (nth (t:=tTour) l 2)),.sl (.slice .bool) ([]),.sl (.slice .bool) ([]),.sl (.slice .bool) ([]),.row 0 0]),(2,.box (cel tTour (nth (t:=tTour) l 2)))]⟩|1=>⟨[(0,.sl tTour l),(3,.ptr 1 0),(4,.sc (.int .i64 2)),(5,.ptr 2 0),(12,.sl tTour l),(13,.sc (.int .i64 l.length)),(14,.sc (.int .i64 2)),(19,.sl tTour l),(20,.sc (.int .i64 l.length)),(21,.sc (.int .i64 1))],[(0,.ob none 0 (.map [])),(1,.box [.sl tTour l,.sl (.slice .bool) ([]),.sl (.slice .bool) (tabD (nth (t:=tTour) l 0) (nth (t:=tTour) l 1)),.sl (.slice .bool) (tabD (nth (t:=tTour) l 0) (nth (t:=tTour) l 2)),.sl (.slice .bool) (tabD (nth (t:=tTour) l 1) (nth (t:=tTour) l 0)),.sl (.slice .bool) ([]),.sl (.slice .bool) (tabD (nth (t:=tTour) l 1) (nth (t:=tTour) l 2)),.sl (.slice .bool) (tabD (nth (t:=tTour) l 2) (nth (t:=tTour) l 0)),.sl (.slice .bool) ([]),.sl (.slice .bool) ([]),.row 0 0]),(2,.box (cel tTour (nth (t:=tTour) l 2)))]⟩|2=>⟨[(0,.sl tTour l),(3,.ptr 1 0),(4,.sc (.int .i64 2)),(5,.ptr 2 0),(12,.sl tTour l),(13,.sc (.int .i64 l.length)),(14,.sc (.int .i64 2)),(19,.sl tTour l),(20,.sc (.int .i64 l.length)),(21,.sc (.int .i64 2))],[(0,.ob none 0 (.map [])),(1,.box [.sl tTour l,.sl (.slice .bool) ([]),.sl (.slice .bool) (tabD (nth (t:=tTour) l 0) (nth (t:=tTour) l 1)),.sl (.slice .bool) (tabD (nth (t:=tTour) l 0) (nth (t:=tTour) l 2)),.sl (.slice .bool) (tabD (nth (t:=tTour) l 1) (nth (t:=tTour) l 0)),.sl (.slice .bool) ([]),.sl (.slice .bool) (tabD (nth (t:=tTour) l 1) (nth (t:=tTour) l 2)),.sl (.slice .bool) (tabD (nth (t:=tTour) l 2) (nth (t:=tTour) l 0)),.sl (.slice .bool) (tabD (nth (t:=tTour) l 2) (nth (t:=tTour) l 1)),.sl (.slice .bool) ([]),.row 0 0]),(2,.box (cel tTour (nth (t:=tTour) l 2)))]⟩|_=>⟨[(0,.sl tTour l),(3,.ptr 1 0),(4,.sc (.int .i64 2)),(5,.ptr 2 0),(12,.sl tTour l),(13,.sc (.int .i64 l.length)),(14,.sc (.int .i64 2)),(19,.sl tTour l),(20,.sc (.int .i64 l.length)),(21,.sc (.int .i64 3))],[(0,.ob none 0 (.map [])),(1,.box [.sl tTour l,.sl (.slice .bool) ([]),.sl (.slice .bool) (tabD (nth (t:=tTour) l 0) (nth (t:=tTour) l 1)),.sl (.slice .bool) (tabD (nth (t:=tTour) l 0) (nth (t:=tTour) l 2)),.sl (.slice .bool) (tabD (nth (t:=tTour) l 1) (nth (t:=tTour) l 0)),.sl (.slice .bool) ([]),.sl (.slice .bool) (tabD (nth (t:=tTour) l 1) (nth (t:=tTour) l 2)),.sl (.slice .bool) (tabD (nth (t:=tTour) l 2) (nth (t:=tTour) l 0)),.sl (.slice .bool) (tabD (nth (t:=tTour) l 2) (nth (t:=tTour) l 1)),.sl (.slice .bool) ([]),.row 0 0]),(2,.box (cel tTour (nth (t:=tTour) l 2)))]⟩) (fun z=>z<=3) (fun z=>3 - z) 0 ?_ (Nat.zero_le _) ?_
   ·exact WK
   ·rintro z hz
    obtain rfl|rfl|rfl|rfl:z=0\/z=1\/z=2\/z=3:=by omega
    ·try simp (maxSteps:=9^9) only[go_sem]
     refine CondW_dec (fun hB=>?_) (fun hB=>absurd (by rw [hl]; decide) hB)
     have c1:=(TouchTableI_fn (nth (t:=tTour) l 2) (nth (t:=tTour) l 0)).sh
     try simp (maxSteps:=9^9) only[go_sem]
     repeat refine AI ?_
     repeat refine AI ?_
     refine cw c1 ?_
     try simp (maxSteps:=9^9) only[go_sem]
     repeat refine AI ?_
     refine LoopK.mk 1 ?_ (by omega) (by omega)
     exact WK
    ·try simp (maxSteps:=9^9) only[go_sem]
     refine CondW_dec (fun hB=>?_) (fun hB=>absurd (by rw [hl]; decide) hB)
     have c1:=(TouchTableI_fn (nth (t:=tTour) l 2) (nth (t:=tTour) l 1)).sh
     try simp (maxSteps:=9^9) only[go_sem]
     repeat refine AI ?_
     repeat refine AI ?_
     refine cw c1 ?_
     try simp (maxSteps:=9^9) only[go_sem]
     repeat refine AI ?_
     refine LoopK.mk 2 ?_ (by omega) (by omega)
     exact WK
    ·try simp (maxSteps:=9^9) only[go_sem]
     refine CondW_dec (fun hB=>?_) (fun hB=>absurd (by rw [hl]; decide) hB)
     try simp (maxSteps:=9^9) only[go_sem]
     repeat refine AI ?_
     refine LoopK.mk 3 ?_ (by omega) (by omega)
     exact WK
    ·try simp (maxSteps:=9^9) only[go_sem]
     refine CondW_dec (fun hB=>by rw [hl] at hB; exact absurd hB (by decide)) (fun hB=>?_)
     try simp (maxSteps:=9^9) only[go_sem]
     repeat refine AI ?_
     refine LoopK.mk 3 ?_ (by omega) (by omega)
     exact WK
  ·try simp (maxSteps:=9^9) only[go_sem]
   refine CondW_dec (fun hA=>by rw [hl] at hA; exact absurd hA (by decide)) (fun hA=>?_)
   try simp (maxSteps:=9^9) only[go_sem]
   all_goals repeat refine AI ?_
   all_goals first|kernel_rfl|omega|rfl
theorem tab_len {a b:DT} (ha:tourB a=true) (hb:tourB b=true):(tabD a b).length=a.2.2.length:=by
 rw [show tabD a b=tabTo a b a.2.2.length from if_pos (by rw [ha,hb]; rfl),tabTo_len]
theorem tab_nth {a b:DT} (ha:tourB a=true) (hb:tourB b=true) {i:Int} (h0:0<=i) (h1:i < a.2.2.length):nth (t:=.slice .bool) (tabD a b) i.toNat=tabRow a b i.toNat (b.2.2.length+1):=by
 have e:tabD a b=tabTo a b a.2.2.length:=if_pos (by rw [ha,hb]; rfl)
 rw [e,nth_lt (by rw [tabTo_len]; omega)]
 unfold tabTo
 rw [List.getElem_map,List.getElem_range]
theorem tab_nlen {a b:DT} (ha:tourB a=true) (hb:tourB b=true) {i:Int} (h0:0<=i) (h1:i < a.2.2.length):(nth (t:=.slice .bool) (tabD a b) i.toNat).length=b.2.2.length+1:=by
 rw [tab_nth ha hb h0 h1,tabRow_len]
theorem tab_get {a b:DT} (ha:tourB a=true) (hb:tourB b=true) {i j:Int} (h0:0<=i) (h1:i < a.2.2.length) (h2:0<=j) (h3:j<=b.2.2.length):nth (t:=.bool) (nth (t:=.slice .bool) (tabD a b) i.toNat) j.toNat=stpTB a i b j:=by
 rw [tab_nth ha hb h0 h1,nth_lt (by rw [tabRow_len]; omega)]
 unfold tabRow
 rw [List.getElem_map,List.getElem_range,show ((i.toNat:Nat):Int)=i by omega,show ((j.toNat:Nat):Int)=j by omega]
@[go_sem] theorem plD1_l (l:List DT):(plD1 l).1=l:=(rfl)
@[go_sem] theorem plD1_00 (l:List DT):(plD1 l).2.1.1.1=[]:=(rfl)
@[go_sem] theorem plD1_01 (l:List DT):(plD1 l).2.1.1.2.1=[]:=(rfl)
@[go_sem] theorem plD1_02 (l:List DT):(plD1 l).2.1.1.2.2=[]:=(rfl)
@[go_sem] theorem plD1_10 (l:List DT):(plD1 l).2.1.2.1.1=[]:=(rfl)
@[go_sem] theorem plD1_11 (l:List DT):(plD1 l).2.1.2.1.2.1=[]:=(rfl)
@[go_sem] theorem plD1_12 (l:List DT):(plD1 l).2.1.2.1.2.2=[]:=(rfl)
@[go_sem] theorem plD1_20 (l:List DT):(plD1 l).2.1.2.2.1=[]:=(rfl)
@[go_sem] theorem plD1_21 (l:List DT):(plD1 l).2.1.2.2.2.1=[]:=(rfl)
@[go_sem] theorem plD1_22 (l:List DT):(plD1 l).2.1.2.2.2.2=[]:=(rfl)
@[go_sem] theorem plD2_l (l:List DT):(plD2 l).1=l:=(rfl)
@[go_sem] theorem plD2_00 (l:List DT):(plD2 l).2.1.1.1=[]:=(rfl)
@[go_sem] theorem plD2_01 (l:List DT):(plD2 l).2.1.1.2.1=tabD (nth (t:=tTour) l 0) (nth (t:=tTour) l 1):=(rfl)
@[go_sem] theorem plD2_02 (l:List DT):(plD2 l).2.1.1.2.2=[]:=(rfl)
@[go_sem] theorem plD2_10 (l:List DT):(plD2 l).2.1.2.1.1=tabD (nth (t:=tTour) l 1) (nth (t:=tTour) l 0):=(rfl)
@[go_sem] theorem plD2_11 (l:List DT):(plD2 l).2.1.2.1.2.1=[]:=(rfl)
@[go_sem] theorem plD2_12 (l:List DT):(plD2 l).2.1.2.1.2.2=[]:=(rfl)
@[go_sem] theorem plD2_20 (l:List DT):(plD2 l).2.1.2.2.1=[]:=(rfl)
@[go_sem] theorem plD2_21 (l:List DT):(plD2 l).2.1.2.2.2.1=[]:=(rfl)
@[go_sem] theorem plD2_22 (l:List DT):(plD2 l).2.1.2.2.2.2=[]:=(rfl)
@[go_sem] theorem plD3_l (l:List DT):(plD3 l).1=l:=(rfl)
@[go_sem] theorem plD3_00 (l:List DT):(plD3 l).2.1.1.1=[]:=(rfl)
@[go_sem] theorem plD3_01 (l:List DT):(plD3 l).2.1.1.2.1=tabD (nth (t:=tTour) l 0) (nth (t:=tTour) l 1):=(rfl)
@[go_sem] theorem plD3_02 (l:List DT):(plD3 l).2.1.1.2.2=tabD (nth (t:=tTour) l 0) (nth (t:=tTour) l 2):=(rfl)
@[go_sem] theorem plD3_10 (l:List DT):(plD3 l).2.1.2.1.1=tabD (nth (t:=tTour) l 1) (nth (t:=tTour) l 0):=(rfl)
@[go_sem] theorem plD3_11 (l:List DT):(plD3 l).2.1.2.1.2.1=[]:=(rfl)
@[go_sem] theorem plD3_12 (l:List DT):(plD3 l).2.1.2.1.2.2=tabD (nth (t:=tTour) l 1) (nth (t:=tTour) l 2):=(rfl)
@[go_sem] theorem plD3_20 (l:List DT):(plD3 l).2.1.2.2.1=tabD (nth (t:=tTour) l 2) (nth (t:=tTour) l 0):=(rfl)
@[go_sem] theorem plD3_21 (l:List DT):(plD3 l).2.1.2.2.2.1=tabD (nth (t:=tTour) l 2) (nth (t:=tTour) l 1):=(rfl)
@[go_sem] theorem plD3_22 (l:List DT):(plD3 l).2.1.2.2.2.2=[]:=(rfl)
set_option maxHeartbeats 4000000 in
theorem advance_fn10 (l:List DT) (hl:l.length=1) (st:List Int) (har:arP l) (hst:stP l st):Fn Tryz.prog 37 [⟨.ext .ref tPlanner,some (plD1 l)⟩,⟨tState,(ni st 0,(0:Int),(0:Int))⟩,⟨.int,0⟩] false [⟨tState,bif bdec (frP l st 0) then (ni st 0+1,(0:Int),(0:Int)) else (ni st 0,(0:Int),(0:Int))⟩,⟨.bool,bdec (frP l st 0)⟩]:=by
 have hr0:=(har 0 (by rw [hl]; decide)).1
 have v0:=hst.2 0 (by rw [hst.1,hl]; decide)
 unfold stAt at v0
 have hs8:=(tour_parts hr0).2.2.2.1
 by_cases h0:ni st 0=(nth (t:=tTour) l 0).2.2.length
 ·have d0:=decide_eq_true h0
  rw [bdec_f fun h=>h.1 h0,cond_false]
  refine fe Tryz.func37 Tryz.ntmps37 Tryz.results37 fun hwf=>?_
  try simp (maxSteps:=9^9) only[go_sem]
  repeat refine AI ?_
  try simp (maxSteps:=9^9) only[go_sem,d0]
  all_goals repeat refine AI ?_
  all_goals first|kernel_rfl|omega|rfl
 ·have d0:=decide_eq_false h0
  refine fe Tryz.func37 Tryz.ntmps37 Tryz.results37 fun hwf=>?_
  try simp (maxSteps:=9^9) only[go_sem]
  repeat refine AI ?_
  try simp (maxSteps:=9^9) only[go_sem,d0]
  repeat refine AI ?_
  refine LoopG.intro _ _ _ (fun y:Nat=>match y with|0=>⟨[(0,.ref tPlanner (plD1 l) 0),(2,.sc (.int .i64 0)),(4,.ptr 0 0),(6,.ptr 1 0),(7,.sc (.bool false)),(27,.sc (.int .i64 l.length)),(28,.sc (.int .i64 0))],[(0,.box [.sc (.int .i64 (ni st 0)),.sc (.int .i64 0),.sc (.int .i64 0)]),(1,.box [.sc (.int .i64 0),.sc (.int .i64 0),.sc (.int .i64 0)])]⟩|_=>⟨[(0,.ref tPlanner (plD1 l) 0),(2,.sc (.int .i64 0)),(4,.ptr 0 0),(6,.ptr 1 0),(7,.sc (.bool false)),(27,.sc (.int .i64 l.length)),(28,.sc (.int .i64 1))],[(0,.box [.sc (.int .i64 (ni st 0)),.sc (.int .i64 0),.sc (.int .i64 0)]),(1,.box [.sc (.int .i64 0),.sc (.int .i64 0),.sc (.int .i64 0)])]⟩) (fun y=>y<=1/\∀ i,i < y->frAt l st 0 i) (fun y=>1 - y) 0 ?_ ⟨Nat.zero_le _,fun i h=>absurd h (Nat.not_lt_zero _)⟩ ?_
  ·exact WK
  ·rintro y ⟨hy,hall⟩
   obtain rfl|rfl:y=0\/y=1:=by omega
   ·try simp (maxSteps:=9^9) only[go_sem]
    refine CondW_dec (fun hA=>?_) (fun hA=>absurd (by rw [hl]; decide) hA)
    try simp (maxSteps:=9^9) only[go_sem]
    repeat refine AI ?_
    refine LoopK.mk 1 ?_ ⟨by omega,fun i hi=>?_⟩ (by omega)
    ·exact WK
    ·by_cases h:i < 0
     ·exact hall i h
     ·intro hne; omega
   ·try simp (maxSteps:=9^9) only[go_sem]
    refine CondW_dec (fun hA=>by rw [hl] at hA; exact absurd hA (by decide)) (fun hA=>?_)
    rw [bdec_t ⟨h0,fun j hj=>hall j (by omega)⟩,cond_true]
    try simp (maxSteps:=9^9) only[go_sem]
    repeat refine AI ?_
    try simp (maxSteps:=9^9) only[go_sem]
    all_goals repeat refine AI ?_
    all_goals first|kernel_rfl|omega|rfl
set_option maxHeartbeats 4000000 in
theorem advance_fn20 (l:List DT) (hl:l.length=2) (st:List Int) (har:arP l) (hst:stP l st):Fn Tryz.prog 37 [⟨.ext .ref tPlanner,some (plD2 l)⟩,⟨tState,(ni st 0,ni st 1,(0:Int))⟩,⟨.int,0⟩] false [⟨tState,bif bdec (frP l st 0) then (ni st 0+1,ni st 1,(0:Int)) else (ni st 0,ni st 1,(0:Int))⟩,⟨.bool,bdec (frP l st 0)⟩]:=by
 have hr0:=(har 0 (by rw [hl]; decide)).1
 have v0:=hst.2 0 (by rw [hst.1,hl]; decide)
 unfold stAt at v0
 have v1:=hst.2 1 (by rw [hst.1,hl]; decide)
 unfold stAt at v1
 have hr1:=(har 1 (by rw [hl]; decide)).1
 have hs8:=(tour_parts hr0).2.2.2.1
 by_cases h0:ni st 0=(nth (t:=tTour) l 0).2.2.length
 ·have d0:=decide_eq_true h0
  rw [bdec_f fun h=>h.1 h0,cond_false]
  refine fe Tryz.func37 Tryz.ntmps37 Tryz.results37 fun hwf=>?_
  try simp (maxSteps:=9^9) only[go_sem]
  repeat refine AI ?_
  try simp (maxSteps:=9^9) only[go_sem,d0]
  all_goals repeat refine AI ?_
  all_goals first|kernel_rfl|omega|rfl
 ·have d0:=decide_eq_false h0
  have ta1:=tab_len hr0 hr1
  have tb1:=tab_nlen hr0 hr1 v0.1 (by omega)
  have tc1:=tab_get hr0 hr1 v0.1 (by omega) v1.1 v1.2
  refine fe Tryz.func37 Tryz.ntmps37 Tryz.results37 fun hwf=>?_
  try simp (maxSteps:=9^9) only[go_sem]
  repeat refine AI ?_
  try simp (maxSteps:=9^9) only[go_sem,d0]
  repeat refine AI ?_
  refine LoopG.intro _ _ _ (fun y:Nat=>match y with|0=>⟨[(0,.ref tPlanner (plD2 l) 0),(2,.sc (.int .i64 0)),(4,.ptr 0 0),(6,.ptr 1 0),(7,.sc (.bool false)),(27,.sc (.int .i64 l.length)),(28,.sc (.int .i64 0))],[(0,.box [.sc (.int .i64 (ni st 0)),.sc (.int .i64 (ni st 1)),.sc (.int .i64 0)]),(1,.box [.sc (.int .i64 0),.sc (.int .i64 0),.sc (.int .i64 0)])]⟩|1=>⟨[(0,.ref tPlanner (plD2 l) 0),(2,.sc (.int .i64 0)),(4,.ptr 0 0),(6,.ptr 1 0),(7,.sc (.bool false)),(27,.sc (.int .i64 l.length)),(28,.sc (.int .i64 1))],[(0,.box [.sc (.int .i64 (ni st 0)),.sc (.int .i64 (ni st 1)),.sc (.int .i64 0)]),(1,.box [.sc (.int .i64 0),.sc (.int .i64 0),.sc (.int .i64 0)])]⟩|_=>⟨[(0,.ref tPlanner (plD2 l) 0),(2,.sc (.int .i64 0)),(4,.ptr 0 0),(6,.ptr 1 0),(7,.sc (.bool false)),(27,.sc (.int .i64 l.length)),(28,.sc (.int .i64 2))],[(0,.box [.sc (.int .i64 (ni st 0)),.sc (.int .i64 (ni st 1)),.sc (.int .i64 0)]),(1,.box [.sc (.int .i64 0),.sc (.int .i64 0),.sc (.int .i64 0)])]⟩) (fun y=>y<=2/\∀ i,i < y->frAt l st 0 i) (fun y=>2 - y) 0 ?_ ⟨Nat.zero_le _,fun i h=>absurd h (Nat.not_lt_zero _)⟩ ?_
  ·exact WK
  ·rintro y ⟨hy,hall⟩
   obtain rfl|rfl|rfl:y=0\/y=1\/y=2:=by omega
   ·try simp (maxSteps:=9^9) only[go_sem]
    refine CondW_dec (fun hA=>?_) (fun hA=>absurd (by rw [hl]; decide) hA)
    try simp (maxSteps:=9^9) only[go_sem]
    repeat refine AI ?_
    refine LoopK.mk 1 ?_ ⟨by omega,fun i hi=>?_⟩ (by omega)
    ·exact WK
    ·by_cases h:i < 0
     ·exact hall i h
     ·intro hne; omega
   ·try simp (maxSteps:=9^9) only[go_sem]
    refine CondW_dec (fun hA=>?_) (fun hA=>absurd (by rw [hl]; decide) hA)
    cases hs:stpTB (nth (t:=tTour) l 0) (ni st 0) (nth (t:=tTour) l 1) (ni st 1)<;>rw [hs] at tc1
    ·try simp (maxSteps:=9^9) only[go_sem,ta1,tb1]
     repeat refine AI ?_
     try simp (maxSteps:=9^9) only[go_sem,ta1,tb1,tc1]
     repeat refine AI ?_
     refine LoopK.mk 2 ?_ ⟨by omega,fun i hi=>?_⟩ (by omega)
     ·exact WK
     ·by_cases h:i < 1
      ·exact hall i h
      ·rw [show i=1 by omega]; exact fun _=>hs
    ·rw [bdec_f (fun h=>by have:=h.2 1 (by rw [hl]; decide) (by decide); rw [hs] at this; cases this),cond_false]
     try simp (maxSteps:=9^9) only[go_sem,ta1,tb1]
     repeat refine AI ?_
     try simp (maxSteps:=9^9) only[go_sem,ta1,tb1,tc1]
     all_goals repeat refine AI ?_
     all_goals first|kernel_rfl|omega|rfl
   ·try simp (maxSteps:=9^9) only[go_sem]
    refine CondW_dec (fun hA=>by rw [hl] at hA; exact absurd hA (by decide)) (fun hA=>?_)
    rw [bdec_t ⟨h0,fun j hj=>hall j (by omega)⟩,cond_true]
    try simp (maxSteps:=9^9) only[go_sem]
    repeat refine AI ?_
    try simp (maxSteps:=9^9) only[go_sem]
    all_goals repeat refine AI ?_
    all_goals first|kernel_rfl|omega|rfl
set_option maxHeartbeats 4000000 in
theorem advance_fn21 (l:List DT) (hl:l.length=2) (st:List Int) (har:arP l) (hst:stP l st):Fn Tryz.prog 37 [⟨.ext .ref tPlanner,some (plD2 l)⟩,⟨tState,(ni st 0,ni st 1,(0:Int))⟩,⟨.int,1⟩] false [⟨tState,bif bdec (frP l st 1) then (ni st 0,ni st 1+1,(0:Int)) else (ni st 0,ni st 1,(0:Int))⟩,⟨.bool,bdec (frP l st 1)⟩]:=by
 have hr1:=(har 1 (by rw [hl]; decide)).1
 have v0:=hst.2 0 (by rw [hst.1,hl]; decide)
 unfold stAt at v0
 have hr0:=(har 0 (by rw [hl]; decide)).1
 have v1:=hst.2 1 (by rw [hst.1,hl]; decide)
 unfold stAt at v1
 have hs8:=(tour_parts hr1).2.2.2.1
 by_cases h0:ni st 1=(nth (t:=tTour) l 1).2.2.length
 ·have d0:=decide_eq_true h0
  rw [bdec_f fun h=>h.1 h0,cond_false]
  refine fe Tryz.func37 Tryz.ntmps37 Tryz.results37 fun hwf=>?_
  try simp (maxSteps:=9^9) only[go_sem]
  repeat refine AI ?_
  try simp (maxSteps:=9^9) only[go_sem,d0]
  all_goals repeat refine AI ?_
  all_goals first|kernel_rfl|omega|rfl
 ·have d0:=decide_eq_false h0
  have ta0:=tab_len hr1 hr0
  have tb0:=tab_nlen hr1 hr0 v1.1 (by omega)
  have tc0:=tab_get hr1 hr0 v1.1 (by omega) v0.1 v0.2
  refine fe Tryz.func37 Tryz.ntmps37 Tryz.results37 fun hwf=>?_
  try simp (maxSteps:=9^9) only[go_sem]
  repeat refine AI ?_
  try simp (maxSteps:=9^9) only[go_sem,d0]
  repeat refine AI ?_
  refine LoopG.intro _ _ _ (fun y:Nat=>match y with|0=>⟨[(0,.ref tPlanner (plD2 l) 0),(2,.sc (.int .i64 1)),(4,.ptr 0 0),(6,.ptr 1 0),(7,.sc (.bool false)),(27,.sc (.int .i64 l.length)),(28,.sc (.int .i64 0))],[(0,.box [.sc (.int .i64 (ni st 0)),.sc (.int .i64 (ni st 1)),.sc (.int .i64 0)]),(1,.box [.sc (.int .i64 0),.sc (.int .i64 0),.sc (.int .i64 0)])]⟩|1=>⟨[(0,.ref tPlanner (plD2 l) 0),(2,.sc (.int .i64 1)),(4,.ptr 0 0),(6,.ptr 1 0),(7,.sc (.bool false)),(27,.sc (.int .i64 l.length)),(28,.sc (.int .i64 1))],[(0,.box [.sc (.int .i64 (ni st 0)),.sc (.int .i64 (ni st 1)),.sc (.int .i64 0)]),(1,.box [.sc (.int .i64 0),.sc (.int .i64 0),.sc (.int .i64 0)])]⟩|_=>⟨[(0,.ref tPlanner (plD2 l) 0),(2,.sc (.int .i64 1)),(4,.ptr 0 0),(6,.ptr 1 0),(7,.sc (.bool false)),(27,.sc (.int .i64 l.length)),(28,.sc (.int .i64 2))],[(0,.box [.sc (.int .i64 (ni st 0)),.sc (.int .i64 (ni st 1)),.sc (.int .i64 0)]),(1,.box [.sc (.int .i64 0),.sc (.int .i64 0),.sc (.int .i64 0)])]⟩) (fun y=>y<=2/\∀ i,i < y->frAt l st 1 i) (fun y=>2 - y) 0 ?_ ⟨Nat.zero_le _,fun i h=>absurd h (Nat.not_lt_zero _)⟩ ?_
  ·exact WK
  ·rintro y ⟨hy,hall⟩
   obtain rfl|rfl|rfl:y=0\/y=1\/y=2:=by omega
   ·try simp (maxSteps:=9^9) only[go_sem]
    refine CondW_dec (fun hA=>?_) (fun hA=>absurd (by rw [hl]; decide) hA)
    cases hs:stpTB (nth (t:=tTour) l 1) (ni st 1) (nth (t:=tTour) l 0) (ni st 0)<;>rw [hs] at tc0
    ·try simp (maxSteps:=9^9) only[go_sem,ta0,tb0]
     repeat refine AI ?_
     try simp (maxSteps:=9^9) only[go_sem,ta0,tb0,tc0]
     repeat refine AI ?_
     refine LoopK.mk 1 ?_ ⟨by omega,fun i hi=>?_⟩ (by omega)
     ·exact WK
     ·by_cases h:i < 0
      ·exact hall i h
      ·rw [show i=0 by omega]; exact fun _=>hs
    ·rw [bdec_f (fun h=>by have:=h.2 0 (by rw [hl]; decide) (by decide); rw [hs] at this; cases this),cond_false]
     try simp (maxSteps:=9^9) only[go_sem,ta0,tb0]
     repeat refine AI ?_
     try simp (maxSteps:=9^9) only[go_sem,ta0,tb0,tc0]
     all_goals repeat refine AI ?_
     all_goals first|kernel_rfl|omega|rfl
   ·try simp (maxSteps:=9^9) only[go_sem]
    refine CondW_dec (fun hA=>?_) (fun hA=>absurd (by rw [hl]; decide) hA)
    try simp (maxSteps:=9^9) only[go_sem]
    repeat refine AI ?_
    refine LoopK.mk 2 ?_ ⟨by omega,fun i hi=>?_⟩ (by omega)
    ·exact WK
    ·by_cases h:i < 1
     ·exact hall i h
     ·intro hne; omega
   ·try simp (maxSteps:=9^9) only[go_sem]
    refine CondW_dec (fun hA=>by rw [hl] at hA; exact absurd hA (by decide)) (fun hA=>?_)
    rw [bdec_t ⟨h0,fun j hj=>hall j (by omega)⟩,cond_true]
    try simp (maxSteps:=9^9) only[go_sem]
    repeat refine AI ?_
    try simp (maxSteps:=9^9) only[go_sem]
    all_goals repeat refine AI ?_
    all_goals first|kernel_rfl|omega|rfl
set_option maxHeartbeats 4000000 in
theorem advance_fn30 (l:List DT) (hl:l.length=3) (st:List Int) (har:arP l) (hst:stP l st):Fn Tryz.prog 37 [⟨.ext .ref tPlanner,some (plD3 l)⟩,⟨tState,(ni st 0,ni st 1,ni st 2)⟩,⟨.int,0⟩] false [⟨tState,bif bdec (frP l st 0) then (ni st 0+1,ni st 1,ni st 2) else (ni st 0,ni st 1,ni st 2)⟩,⟨.bool,bdec (frP l st 0)⟩]:=by
 have hr0:=(har 0 (by rw [hl]; decide)).1
 have v0:=hst.2 0 (by rw [hst.1,hl]; decide)
 unfold stAt at v0
 have v1:=hst.2 1 (by rw [hst.1,hl]; decide)
 unfold stAt at v1
 have hr1:=(har 1 (by rw [hl]; decide)).1
 have v2:=hst.2 2 (by rw [hst.1,hl]; decide)
 unfold stAt at v2
 have hr2:=(har 2 (by rw [hl]; decide)).1
 have hs8:=(tour_parts hr0).2.2.2.1
 by_cases h0:ni st 0=(nth (t:=tTour) l 0).2.2.length
 ·have d0:=decide_eq_true h0
  rw [bdec_f fun h=>h.1 h0,cond_false]
  refine fe Tryz.func37 Tryz.ntmps37 Tryz.results37 fun hwf=>?_
  try simp (maxSteps:=9^9) only[go_sem]
  repeat refine AI ?_
  try simp (maxSteps:=9^9) only[go_sem,d0]
  all_goals repeat refine AI ?_
  all_goals first|kernel_rfl|omega|rfl
 ·have d0:=decide_eq_false h0
  have ta1:=tab_len hr0 hr1
  have tb1:=tab_nlen hr0 hr1 v0.1 (by omega)
  have tc1:=tab_get hr0 hr1 v0.1 (by omega) v1.1 v1.2
  have ta2:=tab_len hr0 hr2
  have tb2:=tab_nlen hr0 hr2 v0.1 (by omega)
  have tc2:=tab_get hr0 hr2 v0.1 (by omega) v2.1 v2.2
  refine fe Tryz.func37 Tryz.ntmps37 Tryz.results37 fun hwf=>?_
  try simp (maxSteps:=9^9) only[go_sem]
  repeat refine AI ?_
  try simp (maxSteps:=9^9) only[go_sem,d0]
  repeat refine AI ?_
  refine LoopG.intro _ _ _ (fun y:Nat=>match y with|0=>⟨[(0,.ref tPlanner (plD3 l) 0),(2,.sc (.int .i64 0)),(4,.ptr 0 0),(6,.ptr 1 0),(7,.sc (.bool false)),(27,.sc (.int .i64 l.length)),(28,.sc (.int .i64 0))],[(0,.box [.sc (.int .i64 (ni st 0)),.sc (.int .i64 (ni st 1)),.sc (.int .i64 (ni st 2))]),(1,.box [.sc (.int .i64 0),.sc (.int .i64 0),.sc (.int .i64 0)])]⟩|1=>⟨[(0,.ref tPlanner (plD3 l) 0),(2,.sc (.int .i64 0)),(4,.ptr 0 0),(6,.ptr 1 0),(7,.sc (.bool false)),(27,.sc (.int .i64 l.length)),(28,.sc (.int .i64 1))],[(0,.box [.sc (.int .i64 (ni st 0)),.sc (.int .i64 (ni st 1)),.sc (.int .i64 (ni st 2))]),(1,.box [.sc (.int .i64 0),.sc (.int .i64 0),.sc (.int .i64 0)])]⟩|2=>⟨[(0,.ref tPlanner (plD3 l) 0),(2,.sc (.int .i64 0)),(4,.ptr 0 0),(6,.ptr 1 0),(7,.sc (.bool false)),(27,.sc (.int .i64 l.length)),(28,.sc (.int .i64 2))],[(0,.box [.sc (.int .i64 (ni st 0)),.sc (.int .i64 (ni st 1)),.sc (.int .i64 (ni st 2))]),(1,.box [.sc (.int .i64 0),.sc (.int .i64 0),.sc (.int .i64 0)])]⟩|_=>⟨[(0,.ref tPlanner (plD3 l) 0),(2,.sc (.int .i64 0)),(4,.ptr 0 0),(6,.ptr 1 0),(7,.sc (.bool false)),(27,.sc (.int .i64 l.length)),(28,.sc (.int .i64 3))],[(0,.box [.sc (.int .i64 (ni st 0)),.sc (.int .i64 (ni st 1)),.sc (.int .i64 (ni st 2))]),(1,.box [.sc (.int .i64 0),.sc (.int .i64 0),.sc (.int .i64 0)])]⟩) (fun y=>y<=3/\∀ i,i < y->frAt l st 0 i) (fun y=>3 - y) 0 ?_ ⟨Nat.zero_le _,fun i h=>absurd h (Nat.not_lt_zero _)⟩ ?_
  ·exact WK
  ·rintro y ⟨hy,hall⟩
   obtain rfl|rfl|rfl|rfl:y=0\/y=1\/y=2\/y=3:=by omega
   ·try simp (maxSteps:=9^9) only[go_sem]
    refine CondW_dec (fun hA=>?_) (fun hA=>absurd (by rw [hl]; decide) hA)
    try simp (maxSteps:=9^9) only[go_sem]
    repeat refine AI ?_
    refine LoopK.mk 1 ?_ ⟨by omega,fun i hi=>?_⟩ (by omega)
    ·exact WK
    ·by_cases h:i < 0
     ·exact hall i h
     ·intro hne; omega
   ·try simp (maxSteps:=9^9) only[go_sem]
    refine CondW_dec (fun hA=>?_) (fun hA=>absurd (by rw [hl]; decide) hA)
    cases hs:stpTB (nth (t:=tTour) l 0) (ni st 0) (nth (t:=tTour) l 1) (ni st 1)<;>rw [hs] at tc1
    ·try simp (maxSteps:=9^9) only[go_sem,ta1,tb1]
     repeat refine AI ?_
     try simp (maxSteps:=9^9) only[go_sem,ta1,tb1,tc1]
     repeat refine AI ?_
     refine LoopK.mk 2 ?_ ⟨by omega,fun i hi=>?_⟩ (by omega)
     ·exact WK
     ·by_cases h:i < 1
      ·exact hall i h
      ·rw [show i=1 by omega]; exact fun _=>hs
    ·rw [bdec_f (fun h=>by have:=h.2 1 (by rw [hl]; decide) (by decide); rw [hs] at this; cases this),cond_false]
     try simp (maxSteps:=9^9) only[go_sem,ta1,tb1]
     repeat refine AI ?_
     try simp (maxSteps:=9^9) only[go_sem,ta1,tb1,tc1]
     all_goals repeat refine AI ?_
     all_goals first|kernel_rfl|omega|rfl
   ·try simp (maxSteps:=9^9) only[go_sem]
    refine CondW_dec (fun hA=>?_) (fun hA=>absurd (by rw [hl]; decide) hA)
    cases hs:stpTB (nth (t:=tTour) l 0) (ni st 0) (nth (t:=tTour) l 2) (ni st 2)<;>rw [hs] at tc2
    ·try simp (maxSteps:=9^9) only[go_sem,ta2,tb2]
     repeat refine AI ?_
     try simp (maxSteps:=9^9) only[go_sem,ta2,tb2,tc2]
     repeat refine AI ?_
     refine LoopK.mk 3 ?_ ⟨by omega,fun i hi=>?_⟩ (by omega)
     ·exact WK
     ·by_cases h:i < 2
      ·exact hall i h
      ·rw [show i=2 by omega]; exact fun _=>hs
    ·rw [bdec_f (fun h=>by have:=h.2 2 (by rw [hl]; decide) (by decide); rw [hs] at this; cases this),cond_false]
     try simp (maxSteps:=9^9) only[go_sem,ta2,tb2]
     repeat refine AI ?_
     try simp (maxSteps:=9^9) only[go_sem,ta2,tb2,tc2]
     all_goals repeat refine AI ?_
     all_goals first|kernel_rfl|omega|rfl
   ·try simp (maxSteps:=9^9) only[go_sem]
    refine CondW_dec (fun hA=>by rw [hl] at hA; exact absurd hA (by decide)) (fun hA=>?_)
    rw [bdec_t ⟨h0,fun j hj=>hall j (by omega)⟩,cond_true]
    try simp (maxSteps:=9^9) only[go_sem]
    repeat refine AI ?_
    try simp (maxSteps:=9^9) only[go_sem]
    all_goals repeat refine AI ?_
    all_goals first|kernel_rfl|omega|rfl
set_option maxHeartbeats 4000000 in
theorem advance_fn31 (l:List DT) (hl:l.length=3) (st:List Int) (har:arP l) (hst:stP l st):Fn Tryz.prog 37 [⟨.ext .ref tPlanner,some (plD3 l)⟩,⟨tState,(ni st 0,ni st 1,ni st 2)⟩,⟨.int,1⟩] false [⟨tState,bif bdec (frP l st 1) then (ni st 0,ni st 1+1,ni st 2) else (ni st 0,ni st 1,ni st 2)⟩,⟨.bool,bdec (frP l st 1)⟩]:=by
 have hr1:=(har 1 (by rw [hl]; decide)).1
 have v0:=hst.2 0 (by rw [hst.1,hl]; decide)
 unfold stAt at v0
 have hr0:=(har 0 (by rw [hl]; decide)).1
 have v1:=hst.2 1 (by rw [hst.1,hl]; decide)
 unfold stAt at v1
 have v2:=hst.2 2 (by rw [hst.1,hl]; decide)
 unfold stAt at v2
 have hr2:=(har 2 (by rw [hl]; decide)).1
 have hs8:=(tour_parts hr1).2.2.2.1
 by_cases h0:ni st 1=(nth (t:=tTour) l 1).2.2.length
 ·have d0:=decide_eq_true h0
  rw [bdec_f fun h=>h.1 h0,cond_false]
  refine fe Tryz.func37 Tryz.ntmps37 Tryz.results37 fun hwf=>?_
  try simp (maxSteps:=9^9) only[go_sem]
  repeat refine AI ?_
  try simp (maxSteps:=9^9) only[go_sem,d0]
  all_goals repeat refine AI ?_
  all_goals first|kernel_rfl|omega|rfl
 ·have d0:=decide_eq_false h0
  have ta0:=tab_len hr1 hr0
  have tb0:=tab_nlen hr1 hr0 v1.1 (by omega)
  have tc0:=tab_get hr1 hr0 v1.1 (by omega) v0.1 v0.2
  have ta2:=tab_len hr1 hr2
  have tb2:=tab_nlen hr1 hr2 v1.1 (by omega)
  have tc2:=tab_get hr1 hr2 v1.1 (by omega) v2.1 v2.2
  refine fe Tryz.func37 Tryz.ntmps37 Tryz.results37 fun hwf=>?_
  try simp (maxSteps:=9^9) only[go_sem]
  repeat refine AI ?_
  try simp (maxSteps:=9^9) only[go_sem,d0]
  repeat refine AI ?_
  refine LoopG.intro _ _ _ (fun y:Nat=>match y with|0=>⟨[(0,.ref tPlanner (plD3 l) 0),(2,.sc (.int .i64 1)),(4,.ptr 0 0),(6,.ptr 1 0),(7,.sc (.bool false)),(27,.sc (.int .i64 l.length)),(28,.sc (.int .i64 0))],[(0,.box [.sc (.int .i64 (ni st 0)),.sc (.int .i64 (ni st 1)),.sc (.int .i64 (ni st 2))]),(1,.box [.sc (.int .i64 0),.sc (.int .i64 0),.sc (.int .i64 0)])]⟩|1=>⟨[(0,.ref tPlanner (plD3 l) 0),(2,.sc (.int .i64 1)),(4,.ptr 0 0),(6,.ptr 1 0),(7,.sc (.bool false)),(27,.sc (.int .i64 l.length)),(28,.sc (.int .i64 1))],[(0,.box [.sc (.int .i64 (ni st 0)),.sc (.int .i64 (ni st 1)),.sc (.int .i64 (ni st 2))]),(1,.box [.sc (.int .i64 0),.sc (.int .i64 0),.sc (.int .i64 0)])]⟩|2=>⟨[(0,.ref tPlanner (plD3 l) 0),(2,.sc (.int .i64 1)),(4,.ptr 0 0),(6,.ptr 1 0),(7,.sc (.bool false)),(27,.sc (.int .i64 l.length)),(28,.sc (.int .i64 2))],[(0,.box [.sc (.int .i64 (ni st 0)),.sc (.int .i64 (ni st 1)),.sc (.int .i64 (ni st 2))]),(1,.box [.sc (.int .i64 0),.sc (.int .i64 0),.sc (.int .i64 0)])]⟩|_=>⟨[(0,.ref tPlanner (plD3 l) 0),(2,.sc (.int .i64 1)),(4,.ptr 0 0),(6,.ptr 1 0),(7,.sc (.bool false)),(27,.sc (.int .i64 l.length)),(28,.sc (.int .i64 3))],[(0,.box [.sc (.int .i64 (ni st 0)),.sc (.int .i64 (ni st 1)),.sc (.int .i64 (ni st 2))]),(1,.box [.sc (.int .i64 0),.sc (.int .i64 0),.sc (.int .i64 0)])]⟩) (fun y=>y<=3/\∀ i,i < y->frAt l st 1 i) (fun y=>3 - y) 0 ?_ ⟨Nat.zero_le _,fun i h=>absurd h (Nat.not_lt_zero _)⟩ ?_
  ·exact WK
  ·rintro y ⟨hy,hall⟩
   obtain rfl|rfl|rfl|rfl:y=0\/y=1\/y=2\/y=3:=by omega
   ·try simp (maxSteps:=9^9) only[go_sem]
    refine CondW_dec (fun hA=>?_) (fun hA=>absurd (by rw [hl]; decide) hA)
    cases hs:stpTB (nth (t:=tTour) l 1) (ni st 1) (nth (t:=tTour) l 0) (ni st 0)<;>rw [hs] at tc0
    ·try simp (maxSteps:=9^9) only[go_sem,ta0,tb0]
     repeat refine AI ?_
     try simp (maxSteps:=9^9) only[go_sem,ta0,tb0,tc0]
     repeat refine AI ?_
     refine LoopK.mk 1 ?_ ⟨by omega,fun i hi=>?_⟩ (by omega)
     ·exact WK
     ·by_cases h:i < 0
      ·exact hall i h
      ·rw [show i=0 by omega]; exact fun _=>hs
    ·rw [bdec_f (fun h=>by have:=h.2 0 (by rw [hl]; decide) (by decide); rw [hs] at this; cases this),cond_false]
     try simp (maxSteps:=9^9) only[go_sem,ta0,tb0]
     repeat refine AI ?_
     try simp (maxSteps:=9^9) only[go_sem,ta0,tb0,tc0]
     all_goals repeat refine AI ?_
     all_goals first|kernel_rfl|omega|rfl
   ·try simp (maxSteps:=9^9) only[go_sem]
    refine CondW_dec (fun hA=>?_) (fun hA=>absurd (by rw [hl]; decide) hA)
    try simp (maxSteps:=9^9) only[go_sem]
    repeat refine AI ?_
    refine LoopK.mk 2 ?_ ⟨by omega,fun i hi=>?_⟩ (by omega)
    ·exact WK
    ·by_cases h:i < 1
     ·exact hall i h
     ·intro hne; omega
   ·try simp (maxSteps:=9^9) only[go_sem]
    refine CondW_dec (fun hA=>?_) (fun hA=>absurd (by rw [hl]; decide) hA)
    cases hs:stpTB (nth (t:=tTour) l 1) (ni st 1) (nth (t:=tTour) l 2) (ni st 2)<;>rw [hs] at tc2
    ·try simp (maxSteps:=9^9) only[go_sem,ta2,tb2]
     repeat refine AI ?_
     try simp (maxSteps:=9^9) only[go_sem,ta2,tb2,tc2]
     repeat refine AI ?_
     refine LoopK.mk 3 ?_ ⟨by omega,fun i hi=>?_⟩ (by omega)
     ·exact WK
     ·by_cases h:i < 2
      ·exact hall i h
      ·rw [show i=2 by omega]; exact fun _=>hs
    ·rw [bdec_f (fun h=>by have:=h.2 2 (by rw [hl]; decide) (by decide); rw [hs] at this; cases this),cond_false]
     try simp (maxSteps:=9^9) only[go_sem,ta2,tb2]
     repeat refine AI ?_
     try simp (maxSteps:=9^9) only[go_sem,ta2,tb2,tc2]
     all_goals repeat refine AI ?_
     all_goals first|kernel_rfl|omega|rfl
   ·try simp (maxSteps:=9^9) only[go_sem]
    refine CondW_dec (fun hA=>by rw [hl] at hA; exact absurd hA (by decide)) (fun hA=>?_)
    rw [bdec_t ⟨h0,fun j hj=>hall j (by omega)⟩,cond_true]
    try simp (maxSteps:=9^9) only[go_sem]
    repeat refine AI ?_
    try simp (maxSteps:=9^9) only[go_sem]
    all_goals repeat refine AI ?_
    all_goals first|kernel_rfl|omega|rfl
set_option maxHeartbeats 4000000 in
theorem advance_fn32 (l:List DT) (hl:l.length=3) (st:List Int) (har:arP l) (hst:stP l st):Fn Tryz.prog 37 [⟨.ext .ref tPlanner,some (plD3 l)⟩,⟨tState,(ni st 0,ni st 1,ni st 2)⟩,⟨.int,2⟩] false [⟨tState,bif bdec (frP l st 2) then (ni st 0,ni st 1,ni st 2+1) else (ni st 0,ni st 1,ni st 2)⟩,⟨.bool,bdec (frP l st 2)⟩]:=by
 have hr2:=(har 2 (by rw [hl]; decide)).1
 have v0:=hst.2 0 (by rw [hst.1,hl]; decide)
 unfold stAt at v0
 have hr0:=(har 0 (by rw [hl]; decide)).1
 have v1:=hst.2 1 (by rw [hst.1,hl]; decide)
 unfold stAt at v1
 have hr1:=(har 1 (by rw [hl]; decide)).1
 have v2:=hst.2 2 (by rw [hst.1,hl]; decide)
 unfold stAt at v2
 have hs8:=(tour_parts hr2).2.2.2.1
 by_cases h0:ni st 2=(nth (t:=tTour) l 2).2.2.length
 ·have d0:=decide_eq_true h0
  rw [bdec_f fun h=>h.1 h0,cond_false]
  refine fe Tryz.func37 Tryz.ntmps37 Tryz.results37 fun hwf=>?_
  try simp (maxSteps:=9^9) only[go_sem]
  repeat refine AI ?_
  try simp (maxSteps:=9^9) only[go_sem,d0]
  all_goals repeat refine AI ?_
  all_goals first|kernel_rfl|omega|rfl
 ·have d0:=decide_eq_false h0
  have ta0:=tab_len hr2 hr0
  have tb0:=tab_nlen hr2 hr0 v2.1 (by omega)
  have tc0:=tab_get hr2 hr0 v2.1 (by omega) v0.1 v0.2
  have ta1:=tab_len hr2 hr1
  have tb1:=tab_nlen hr2 hr1 v2.1 (by omega)
  have tc1:=tab_get hr2 hr1 v2.1 (by omega) v1.1 v1.2
  refine fe Tryz.func37 Tryz.ntmps37 Tryz.results37 fun hwf=>?_
  try simp (maxSteps:=9^9) only[go_sem]
  repeat refine AI ?_
  try simp (maxSteps:=9^9) only[go_sem,d0]
  repeat refine AI ?_
  refine LoopG.intro _ _ _ (fun y:Nat=>match y with|0=>⟨[(0,.ref tPlanner (plD3 l) 0),(2,.sc (.int .i64 2)),(4,.ptr 0 0),(6,.ptr 1 0),(7,.sc (.bool false)),(27,.sc (.int .i64 l.length)),(28,.sc (.int .i64 0))],[(0,.box [.sc (.int .i64 (ni st 0)),.sc (.int .i64 (ni st 1)),.sc (.int .i64 (ni st 2))]),(1,.box [.sc (.int .i64 0),.sc (.int .i64 0),.sc (.int .i64 0)])]⟩|1=>⟨[(0,.ref tPlanner (plD3 l) 0),(2,.sc (.int .i64 2)),(4,.ptr 0 0),(6,.ptr 1 0),(7,.sc (.bool false)),(27,.sc (.int .i64 l.length)),(28,.sc (.int .i64 1))],[(0,.box [.sc (.int .i64 (ni st 0)),.sc (.int .i64 (ni st 1)),.sc (.int .i64 (ni st 2))]),(1,.box [.sc (.int .i64 0),.sc (.int .i64 0),.sc (.int .i64 0)])]⟩|2=>⟨[(0,.ref tPlanner (plD3 l) 0),(2,.sc (.int .i64 2)),(4,.ptr 0 0),(6,.ptr 1 0),(7,.sc (.bool false)),(27,.sc (.int .i64 l.length)),(28,.sc (.int .i64 2))],[(0,.box [.sc (.int .i64 (ni st 0)),.sc (.int .i64 (ni st 1)),.sc (.int .i64 (ni st 2))]),(1,.box [.sc (.int .i64 0),.sc (.int .i64 0),.sc (.int .i64 0)])]⟩|_=>⟨[(0,.ref tPlanner (plD3 l) 0),(2,.sc (.int .i64 2)),(4,.ptr 0 0),(6,.ptr 1 0),(7,.sc (.bool false)),(27,.sc (.int .i64 l.length)),(28,.sc (.int .i64 3))],[(0,.box [.sc (.int .i64 (ni st 0)),.sc (.int .i64 (ni st 1)),.sc (.int .i64 (ni st 2))]),(1,.box [.sc (.int .i64 0),.sc (.int .i64 0),.sc (.int .i64 0)])]⟩) (fun y=>y<=3/\∀ i,i < y->frAt l st 2 i) (fun y=>3 - y) 0 ?_ ⟨Nat.zero_le _,fun i h=>absurd h (Nat.not_lt_zero _)⟩ ?_
  ·exact WK
  ·rintro y ⟨hy,hall⟩
   obtain rfl|rfl|rfl|rfl:y=0\/y=1\/y=2\/y=3:=by omega
   ·try simp (maxSteps:=9^9) only[go_sem]
    refine CondW_dec (fun hA=>?_) (fun hA=>absurd (by rw [hl]; decide) hA)
    cases hs:stpTB (nth (t:=tTour) l 2) (ni st 2) (nth (t:=tTour) l 0) (ni st 0)<;>rw [hs] at tc0
    ·try simp (maxSteps:=9^9) only[go_sem,ta0,tb0]
     repeat refine AI ?_
     try simp (maxSteps:=9^9) only[go_sem,ta0,tb0,tc0]
     repeat refine AI ?_
     refine LoopK.mk 1 ?_ ⟨by omega,fun i hi=>?_⟩ (by omega)
     ·exact WK
     ·by_cases h:i < 0
      ·exact hall i h
      ·rw [show i=0 by omega]; exact fun _=>hs
    ·rw [bdec_f (fun h=>by have:=h.2 0 (by rw [hl]; decide) (by decide); rw [hs] at this; cases this),cond_false]
     try simp (maxSteps:=9^9) only[go_sem,ta0,tb0]
     repeat refine AI ?_
     try simp (maxSteps:=9^9) only[go_sem,ta0,tb0,tc0]
     all_goals repeat refine AI ?_
     all_goals first|kernel_rfl|omega|rfl
   ·try simp (maxSteps:=9^9) only[go_sem]
    refine CondW_dec (fun hA=>?_) (fun hA=>absurd (by rw [hl]; decide) hA)
    cases hs:stpTB (nth (t:=tTour) l 2) (ni st 2) (nth (t:=tTour) l 1) (ni st 1)<;>rw [hs] at tc1
    ·try simp (maxSteps:=9^9) only[go_sem,ta1,tb1]
     repeat refine AI ?_
     try simp (maxSteps:=9^9) only[go_sem,ta1,tb1,tc1]
     repeat refine AI ?_
     refine LoopK.mk 2 ?_ ⟨by omega,fun i hi=>?_⟩ (by omega)
     ·exact WK
     ·by_cases h:i < 1
      ·exact hall i h
      ·rw [show i=1 by omega]; exact fun _=>hs
    ·rw [bdec_f (fun h=>by have:=h.2 1 (by rw [hl]; decide) (by decide); rw [hs] at this; cases this),cond_false]
     try simp (maxSteps:=9^9) only[go_sem,ta1,tb1]
     repeat refine AI ?_
     try simp (maxSteps:=9^9) only[go_sem,ta1,tb1,tc1]
     all_goals repeat refine AI ?_
     all_goals first|kernel_rfl|omega|rfl
   ·try simp (maxSteps:=9^9) only[go_sem]
    refine CondW_dec (fun hA=>?_) (fun hA=>absurd (by rw [hl]; decide) hA)
    try simp (maxSteps:=9^9) only[go_sem]
    repeat refine AI ?_
    refine LoopK.mk 3 ?_ ⟨by omega,fun i hi=>?_⟩ (by omega)
    ·exact WK
    ·by_cases h:i < 2
     ·exact hall i h
     ·intro hne; omega
   ·try simp (maxSteps:=9^9) only[go_sem]
    refine CondW_dec (fun hA=>by rw [hl] at hA; exact absurd hA (by decide)) (fun hA=>?_)
    rw [bdec_t ⟨h0,fun j hj=>hall j (by omega)⟩,cond_true]
    try simp (maxSteps:=9^9) only[go_sem]
    repeat refine AI ?_
    try simp (maxSteps:=9^9) only[go_sem]
    all_goals repeat refine AI ?_
    all_goals first|kernel_rfl|omega|rfl
def adv (st:List Int) (k:Nat):List Int:=st.set k (ni st k+1)
def okAt (l:List DT) (st:List Int) (k:Int):Prop:=(0<=k/\k<=(l.length:Int) - 1)/\frP l st k.toNat
open Classical in
noncomputable def schGo (l:List DT):List Int->List Int->Option (List Int)
 | [],st=>some st
 | k :: o,st=>if okAt l st k then schGo l o (adv st k.toNat) else none
def endP (l:List DT) (st:List Int):Prop:=∀ i,i < l.length->ni st i=(nth (t:=tTour) l i).2.2.length
theorem schGo_t {l:List DT} {k:Int} {o st:List Int} (h:okAt l st k):schGo l (k :: o) st=schGo l o (adv st k.toNat):=if_pos h
theorem schGo_f {l:List DT} {k:Int} {o st:List Int} (h:¬ okAt l st k):schGo l (k :: o) st=none:=if_neg h
theorem ni_set {st:List Int} {k i:Nat} {v:Int} (hk:k < st.length):ni (st.set k v) i=if i=k then v else ni st i:=by
 unfold ni
 by_cases h:i=k
 ·subst h
  rw [if_pos rfl,nth_lt (by rw [List.length_set]; exact hk)]
  simp
 ·rw [if_neg h]
  by_cases hi:i < st.length
  ·rw [nth_lt (by rw [List.length_set]; exact hi),nth_lt hi]
   simp [List.getElem_set,Ne.symm h]
  ·unfold nth
   simp [List.getD_eq_getElem?_getD,List.getElem?_set,Ne.symm h]
theorem adv_len {st:List Int} {k:Nat}:(adv st k).length=st.length:=by unfold adv; rw [List.length_set]
theorem ni_adv {st:List Int} {k i:Nat} (hk:k < st.length):ni (adv st k) i=if i=k then ni st k+1 else ni st i:=ni_set hk
theorem stP_adv {l:List DT} {st:List Int} {k:Nat} (h:stP l st) (hk:k < l.length) (hf:ni st k ≠ (nth (t:=tTour) l k).2.2.length):stP l (adv st k):=by
 have hk':k < st.length:=by rw [h.1]; exact hk
 refine ⟨by rw [adv_len]; exact h.1,fun i hi=>?_⟩
 rw [adv_len] at hi
 have hv:=h.2 i hi
 unfold stAt at hv ⊢
 rw [ni_adv hk']
 by_cases e:i=k
 ·subst e; rw [if_pos rfl]; omega
 ·rw [if_neg e]; exact hv
theorem stP_zero (l:List DT):stP l (List.replicate l.length 0):=by
 refine ⟨by simp,fun i hi=>?_⟩
 have:ni (List.replicate l.length 0) i=0:=by
  unfold ni; rw [nth_lt hi]; simp
 unfold stAt
 rw [this]
 exact ⟨Int.le_refl _,by omega⟩
theorem l28End_fn (l:List DT) (st:List Int) (hst:stP l st):Fn Tryz.prog 55 [⟨.slice tTour,l⟩,⟨tInts,st⟩] false [⟨.bool,bdec (endP l st)⟩]:=by
 have hlen:=hst.1
 refine fe Tryz.func55 Tryz.ntmps55 Tryz.results55 fun hwf=>?_
 have hl:l.length<=9223372036854775807:=(hwf ⟨.slice tTour,l⟩ (by simp)).1
 try simp (maxSteps:=9^9) only[go_sem]
 refine LoopG.intro _ _ _ (fun i:Nat=>⟨[(1,.sl .int st),(7,.sl tTour l),(8,.sc (.int .i64 l.length)),(9,.sc (.int .i64 i))],[]⟩) (fun i=>i<=l.length/\∀ j,j < i->ni st j=(nth (t:=tTour) l j).2.2.length) (fun i=>l.length - i) 0 ?_ ⟨Nat.zero_le _,fun j h=>absurd h (Nat.not_lt_zero _)⟩ ?_
 ·exact WK
 ·rintro i ⟨hi,hall⟩
  try simp (maxSteps:=9^9) only[go_sem]
  refine CondW_dec (fun hA=>?_) (fun hA=>?_)
  ·have hlt:i < l.length:=by omega
   have hv:=hst.2 i (by omega)
   unfold stAt at hv
   by_cases he:ni st i < (nth (t:=tTour) l i).2.2.length
   ·have d1:=decide_eq_true he
    rw [bdec_f fun h=>by have:=h i hlt; omega]
    try simp (maxSteps:=9^9) only[go_sem]
    repeat refine AI ?_
    try simp (maxSteps:=9^9) only[go_sem,d1]
    all_goals repeat refine AI ?_
    all_goals first|kernel_rfl|omega|rfl
   ·have d1:=decide_eq_false he
    try simp (maxSteps:=9^9) only[go_sem]
    repeat refine AI ?_
    try simp (maxSteps:=9^9) only[go_sem,d1]
    repeat refine AI ?_
    refine LoopK.mk (i+1) ?_ ⟨by omega,fun j hj=>?_⟩ (by omega)
    ·exact WK
    ·by_cases h:j < i
     ·exact hall j h
     ·rw [show j=i by omega]; omega
  ·rw [bdec_t (p:=endP l st) fun j hj=>hall j (by omega)]
   try simp (maxSteps:=9^9) only[go_sem]
   all_goals repeat refine AI ?_
   all_goals first|kernel_rfl|omega|rfl
set_option maxHeartbeats 4000000 in
theorem isEnd_fn1 (l:List DT) (hl:l.length=1) (st:List Int) (hst:stP l st):Fn Tryz.prog 36 [⟨.ext .ref tPlanner,some (plD1 l)⟩,⟨tState,(ni st 0,(0:Int),(0:Int))⟩] false [⟨.bool,bdec (endP l st)⟩]:=by
 have v0:=hst.2 0 (by rw [hst.1,hl]; decide)
 unfold stAt at v0
 refine fe Tryz.func36 Tryz.ntmps36 Tryz.results36 fun hwf=>?_
 try simp (maxSteps:=9^9) only[go_sem]
 repeat refine AI ?_
 refine LoopG.intro _ _ _ (fun y:Nat=>match y with|0=>⟨[(3,.ptr 0 0),(10,.sl tTour l),(11,.sc (.int .i64 l.length)),(12,.sc (.int .i64 0))],[(0,.box [.sc (.int .i64 (ni st 0)),.sc (.int .i64 0),.sc (.int .i64 0)])]⟩|_=>⟨[(3,.ptr 0 0),(10,.sl tTour l),(11,.sc (.int .i64 l.length)),(12,.sc (.int .i64 1))],[(0,.box [.sc (.int .i64 (ni st 0)),.sc (.int .i64 0),.sc (.int .i64 0)])]⟩) (fun y=>y<=1/\∀ j,j < y->ni st j=(nth (t:=tTour) l j).2.2.length) (fun y=>1 - y) 0 ?_ ⟨Nat.zero_le _,fun j h=>absurd h (Nat.not_lt_zero _)⟩ ?_
 ·exact WK
 ·rintro y ⟨hy,hall⟩
  obtain rfl|rfl:y=0\/y=1:=by omega
  ·try simp (maxSteps:=9^9) only[go_sem]
   refine CondW_dec (fun hA=>?_) (fun hA=>absurd (by rw [hl]; decide) hA)
   by_cases he:ni st 0=(nth (t:=tTour) l 0).2.2.length
   ·have d1:=decide_eq_true he
    try simp (maxSteps:=9^9) only[go_sem]
    repeat refine AI ?_
    try simp (maxSteps:=9^9) only[go_sem,d1]
    repeat refine AI ?_
    refine LoopK.mk 1 ?_ ⟨by omega,fun j hj=>?_⟩ (by omega)
    ·exact WK
    ·by_cases h:j < 0
     ·exact hall j h
     ·rw [show j=0 by omega]; exact he
   ·have d1:=decide_eq_false he
    rw [bdec_f fun h=>he (h 0 (by rw [hl]; decide))]
    try simp (maxSteps:=9^9) only[go_sem]
    repeat refine AI ?_
    try simp (maxSteps:=9^9) only[go_sem,d1]
    all_goals repeat refine AI ?_
    all_goals first|kernel_rfl|omega|rfl
  ·try simp (maxSteps:=9^9) only[go_sem]
   refine CondW_dec (fun hA=>by rw [hl] at hA; exact absurd hA (by decide)) (fun hA=>?_)
   rw [bdec_t (p:=endP l st) fun j hj=>hall j (by omega)]
   try simp (maxSteps:=9^9) only[go_sem]
   all_goals repeat refine AI ?_
   all_goals first|kernel_rfl|omega|rfl
set_option maxHeartbeats 4000000 in
theorem isEnd_fn2 (l:List DT) (hl:l.length=2) (st:List Int) (hst:stP l st):Fn Tryz.prog 36 [⟨.ext .ref tPlanner,some (plD2 l)⟩,⟨tState,(ni st 0,ni st 1,(0:Int))⟩] false [⟨.bool,bdec (endP l st)⟩]:=by
 have v0:=hst.2 0 (by rw [hst.1,hl]; decide)
 unfold stAt at v0
 have v1:=hst.2 1 (by rw [hst.1,hl]; decide)
 unfold stAt at v1
 refine fe Tryz.func36 Tryz.ntmps36 Tryz.results36 fun hwf=>?_
 try simp (maxSteps:=9^9) only[go_sem]
 repeat refine AI ?_
 refine LoopG.intro _ _ _ (fun y:Nat=>match y with|0=>⟨[(3,.ptr 0 0),(10,.sl tTour l),(11,.sc (.int .i64 l.length)),(12,.sc (.int .i64 0))],[(0,.box [.sc (.int .i64 (ni st 0)),.sc (.int .i64 (ni st 1)),.sc (.int .i64 0)])]⟩|1=>⟨[(3,.ptr 0 0),(10,.sl tTour l),(11,.sc (.int .i64 l.length)),(12,.sc (.int .i64 1))],[(0,.box [.sc (.int .i64 (ni st 0)),.sc (.int .i64 (ni st 1)),.sc (.int .i64 0)])]⟩|_=>⟨[(3,.ptr 0 0),(10,.sl tTour l),(11,.sc (.int .i64 l.length)),(12,.sc (.int .i64 2))],[(0,.box [.sc (.int .i64 (ni st 0)),.sc (.int .i64 (ni st 1)),.sc (.int .i64 0)])]⟩) (fun y=>y<=2/\∀ j,j < y->ni st j=(nth (t:=tTour) l j).2.2.length) (fun y=>2 - y) 0 ?_ ⟨Nat.zero_le _,fun j h=>absurd h (Nat.not_lt_zero _)⟩ ?_
 ·exact WK
 ·rintro y ⟨hy,hall⟩
  obtain rfl|rfl|rfl:y=0\/y=1\/y=2:=by omega
  ·try simp (maxSteps:=9^9) only[go_sem]
   refine CondW_dec (fun hA=>?_) (fun hA=>absurd (by rw [hl]; decide) hA)
   by_cases he:ni st 0=(nth (t:=tTour) l 0).2.2.length
   ·have d1:=decide_eq_true he
    try simp (maxSteps:=9^9) only[go_sem]
    repeat refine AI ?_
    try simp (maxSteps:=9^9) only[go_sem,d1]
    repeat refine AI ?_
    refine LoopK.mk 1 ?_ ⟨by omega,fun j hj=>?_⟩ (by omega)
    ·exact WK
    ·by_cases h:j < 0
     ·exact hall j h
     ·rw [show j=0 by omega]; exact he
   ·have d1:=decide_eq_false he
    rw [bdec_f fun h=>he (h 0 (by rw [hl]; decide))]
    try simp (maxSteps:=9^9) only[go_sem]
    repeat refine AI ?_
    try simp (maxSteps:=9^9) only[go_sem,d1]
    all_goals repeat refine AI ?_
    all_goals first|kernel_rfl|omega|rfl
  ·try simp (maxSteps:=9^9) only[go_sem]
   refine CondW_dec (fun hA=>?_) (fun hA=>absurd (by rw [hl]; decide) hA)
   by_cases he:ni st 1=(nth (t:=tTour) l 1).2.2.length
   ·have d1:=decide_eq_true he
    try simp (maxSteps:=9^9) only[go_sem]
    repeat refine AI ?_
    try simp (maxSteps:=9^9) only[go_sem,d1]
    repeat refine AI ?_
    refine LoopK.mk 2 ?_ ⟨by omega,fun j hj=>?_⟩ (by omega)
    ·exact WK
    ·by_cases h:j < 1
     ·exact hall j h
     ·rw [show j=1 by omega]; exact he
   ·have d1:=decide_eq_false he
    rw [bdec_f fun h=>he (h 1 (by rw [hl]; decide))]
    try simp (maxSteps:=9^9) only[go_sem]
    repeat refine AI ?_
    try simp (maxSteps:=9^9) only[go_sem,d1]
    all_goals repeat refine AI ?_
    all_goals first|kernel_rfl|omega|rfl
  ·try simp (maxSteps:=9^9) only[go_sem]
   refine CondW_dec (fun hA=>by rw [hl] at hA; exact absurd hA (by decide)) (fun hA=>?_)
   rw [bdec_t (p:=endP l st) fun j hj=>hall j (by omega)]
   try simp (maxSteps:=9^9) only[go_sem]
   all_goals repeat refine AI ?_
   all_goals first|kernel_rfl|omega|rfl
set_option maxHeartbeats 4000000 in
theorem isEnd_fn3 (l:List DT) (hl:l.length=3) (st:List Int) (hst:stP l st):Fn Tryz.prog 36 [⟨.ext .ref tPlanner,some (plD3 l)⟩,⟨tState,(ni st 0,ni st 1,ni st 2)⟩] false [⟨.bool,bdec (endP l st)⟩]:=by
 have v0:=hst.2 0 (by rw [hst.1,hl]; decide)
 unfold stAt at v0
 have v1:=hst.2 1 (by rw [hst.1,hl]; decide)
 unfold stAt at v1
 have v2:=hst.2 2 (by rw [hst.1,hl]; decide)
 unfold stAt at v2
 refine fe Tryz.func36 Tryz.ntmps36 Tryz.results36 fun hwf=>?_
 try simp (maxSteps:=9^9) only[go_sem]
 repeat refine AI ?_
 refine LoopG.intro _ _ _ (fun y:Nat=>match y with|0=>⟨[(3,.ptr 0 0),(10,.sl tTour l),(11,.sc (.int .i64 l.length)),(12,.sc (.int .i64 0))],[(0,.box [.sc (.int .i64 (ni st 0)),.sc (.int .i64 (ni st 1)),.sc (.int .i64 (ni st 2))])]⟩|1=>⟨[(3,.ptr 0 0),(10,.sl tTour l),(11,.sc (.int .i64 l.length)),(12,.sc (.int .i64 1))],[(0,.box [.sc (.int .i64 (ni st 0)),.sc (.int .i64 (ni st 1)),.sc (.int .i64 (ni st 2))])]⟩|2=>⟨[(3,.ptr 0 0),(10,.sl tTour l),(11,.sc (.int .i64 l.length)),(12,.sc (.int .i64 2))],[(0,.box [.sc (.int .i64 (ni st 0)),.sc (.int .i64 (ni st 1)),.sc (.int .i64 (ni st 2))])]⟩|_=>⟨[(3,.ptr 0 0),(10,.sl tTour l),(11,.sc (.int .i64 l.length)),(12,.sc (.int .i64 3))],[(0,.box [.sc (.int .i64 (ni st 0)),.sc (.int .i64 (ni st 1)),.sc (.int .i64 (ni st 2))])]⟩) (fun y=>y<=3/\∀ j,j < y->ni st j=(nth (t:=tTour) l j).2.2.length) (fun y=>3 - y) 0 ?_ ⟨Nat.zero_le _,fun j h=>absurd h (Nat.not_lt_zero _)⟩ ?_
 ·exact WK
 ·rintro y ⟨hy,hall⟩
  obtain rfl|rfl|rfl|rfl:y=0\/y=1\/y=2\/y=3:=by omega
  ·try simp (maxSteps:=9^9) only[go_sem]
   refine CondW_dec (fun hA=>?_) (fun hA=>absurd (by rw [hl]; decide) hA)
   by_cases he:ni st 0=(nth (t:=tTour) l 0).2.2.length
   ·have d1:=decide_eq_true he
    try simp (maxSteps:=9^9) only[go_sem]
    repeat refine AI ?_
    try simp (maxSteps:=9^9) only[go_sem,d1]
    repeat refine AI ?_
    refine LoopK.mk 1 ?_ ⟨by omega,fun j hj=>?_⟩ (by omega)
    ·exact WK
    ·by_cases h:j < 0
     ·exact hall j h
     ·rw [show j=0 by omega]; exact he
   ·have d1:=decide_eq_false he
    rw [bdec_f fun h=>he (h 0 (by rw [hl]; decide))]
    try simp (maxSteps:=9^9) only[go_sem]
    repeat refine AI ?_
    try simp (maxSteps:=9^9) only[go_sem,d1]
    all_goals repeat refine AI ?_
    all_goals first|kernel_rfl|omega|rfl
  ·try simp (maxSteps:=9^9) only[go_sem]
   refine CondW_dec (fun hA=>?_) (fun hA=>absurd (by rw [hl]; decide) hA)
   by_cases he:ni st 1=(nth (t:=tTour) l 1).2.2.length
   ·have d1:=decide_eq_true he
    try simp (maxSteps:=9^9) only[go_sem]
    repeat refine AI ?_
    try simp (maxSteps:=9^9) only[go_sem,d1]
    repeat refine AI ?_
    refine LoopK.mk 2 ?_ ⟨by omega,fun j hj=>?_⟩ (by omega)
    ·exact WK
    ·by_cases h:j < 1
     ·exact hall j h
     ·rw [show j=1 by omega]; exact he
   ·have d1:=decide_eq_false he
    rw [bdec_f fun h=>he (h 1 (by rw [hl]; decide))]
    try simp (maxSteps:=9^9) only[go_sem]
    repeat refine AI ?_
    try simp (maxSteps:=9^9) only[go_sem,d1]
    all_goals repeat refine AI ?_
    all_goals first|kernel_rfl|omega|rfl
  ·try simp (maxSteps:=9^9) only[go_sem]
   refine CondW_dec (fun hA=>?_) (fun hA=>absurd (by rw [hl]; decide) hA)
   by_cases he:ni st 2=(nth (t:=tTour) l 2).2.2.length
   ·have d1:=decide_eq_true he
    try simp (maxSteps:=9^9) only[go_sem]
    repeat refine AI ?_
    try simp (maxSteps:=9^9) only[go_sem,d1]
    repeat refine AI ?_
    refine LoopK.mk 3 ?_ ⟨by omega,fun j hj=>?_⟩ (by omega)
    ·exact WK
    ·by_cases h:j < 2
     ·exact hall j h
     ·rw [show j=2 by omega]; exact he
   ·have d1:=decide_eq_false he
    rw [bdec_f fun h=>he (h 2 (by rw [hl]; decide))]
    try simp (maxSteps:=9^9) only[go_sem]
    repeat refine AI ?_
    try simp (maxSteps:=9^9) only[go_sem,d1]
    all_goals repeat refine AI ?_
    all_goals first|kernel_rfl|omega|rfl
  ·try simp (maxSteps:=9^9) only[go_sem]
   refine CondW_dec (fun hA=>by rw [hl] at hA; exact absurd hA (by decide)) (fun hA=>?_)
   rw [bdec_t (p:=endP l st) fun j hj=>hall j (by omega)]
   try simp (maxSteps:=9^9) only[go_sem]
   all_goals repeat refine AI ?_
   all_goals first|kernel_rfl|omega|rfl
def s3 (st:List Int):tState.den:=(ni st 0,(ni st 1,ni st 2))
noncomputable def plT (l:List DT):tTabs.den:=if l.length=1 then plT1 l else if l.length=2 then plT2 l else plT3 l
theorem plT_1 {l:List DT} (h:l.length=1):plT l=plT1 l:=if_pos h
theorem plT_2 {l:List DT} (h:l.length=2):plT l=plT2 l:=by unfold plT; rw [if_neg (by omega),if_pos h]
theorem plT_3 {l:List DT} (h:l.length=3):plT l=plT3 l:=by unfold plT; rw [if_neg (by omega),if_neg (by omega)]
noncomputable def plD (l:List DT):tPlanner.den:=(l,(plT l,some (0:Int)))
theorem newPlanner_fn (l:List DT) (h:1<=l.length/\l.length<=3):FnNP Tryz.prog 33 [⟨.slice tTour,l⟩] tPl0 (l,plT l):=by
 obtain hl|hl|hl:l.length=1\/l.length=2\/l.length=3:=by omega
 ·rw [plT_1 hl]; exact newPlanner_fn1 l hl
 ·rw [plT_2 hl]; exact newPlanner_fn2 l hl
 ·rw [plT_3 hl]; exact newPlanner_fn3 l hl
theorem s3_1 {l:List DT} {st:List Int} (hst:stP l st) (hl:l.length=1):s3 st=(ni st 0,((0:Int),(0:Int))):=by
 unfold s3; rw [ni_ge (i:=1) (by have:=hst.1; omega),ni_ge (i:=2) (by have:=hst.1; omega)]
theorem s3_2 {l:List DT} {st:List Int} (hst:stP l st) (hl:l.length=2):s3 st=(ni st 0,(ni st 1,(0:Int))):=by
 unfold s3; rw [ni_ge (i:=2) (by have:=hst.1; omega)]
theorem s3_adv {l:List DT} {st:List Int} (hst:stP l st) {k:Nat} (hk:k < l.length):s3 (adv st k)=(if 0=k then ni st 0+1 else ni st 0,(if 1=k then ni st 1+1 else ni st 1,if 2=k then ni st 2+1 else ni st 2)):=by
 have hk':k < st.length:=by rw [hst.1]; exact hk
 unfold s3
 rw [ni_adv hk',ni_adv hk',ni_adv hk']
 congr 1
 ·split
  ·rename_i e; rw [<-e]
  ·rfl
 ·congr 1
  ·split
   ·rename_i e; rw [<-e]
   ·rfl
  ·split
   ·rename_i e; rw [<-e]
   ·rfl
theorem advance_fn (l:List DT) (h:1<=l.length/\l.length<=3) (st:List Int) (har:arP l) (hst:stP l st) (k:Nat) (hk:k < l.length):Fn Tryz.prog 37 [⟨.ext .ref tPlanner,some (plD l)⟩,⟨tState,s3 st⟩,⟨.int,(k:Int)⟩] false [⟨tState,bif bdec (frP l st k) then s3 (adv st k) else s3 st⟩,⟨.bool,bdec (frP l st k)⟩]:=by
 obtain hl|hl|hl:l.length=1\/l.length=2\/l.length=3:=by omega
 ·obtain rfl:k=0:=by omega
  have hz:ni st 1=0/\ni st 2=0:=⟨ni_ge (by have:=hst.1; omega),ni_ge (by have:=hst.1; omega)⟩
  have:=advance_fn10 l hl st har hst
  rw [s3_adv hst hk,s3_1 hst hl,hz.1,hz.2]
  unfold plD
  rw [plT_1 hl]
  exact this
 ·have hz:ni st 2=0:=ni_ge (by have:=hst.1; omega)
  obtain rfl|rfl:k=0\/k=1:=by omega
  ·have:=advance_fn20 l hl st har hst
   rw [s3_adv hst hk,s3_2 hst hl,hz]
   unfold plD
   rw [plT_2 hl]
   exact this
  ·have:=advance_fn21 l hl st har hst
   rw [s3_adv hst hk,s3_2 hst hl,hz]
   unfold plD
   rw [plT_2 hl]
   exact this
 ·obtain rfl|rfl|rfl:k=0\/k=1\/k=2:=by omega
  ·have:=advance_fn30 l hl st har hst
   rw [s3_adv hst hk]
   unfold plD
   rw [plT_3 hl]
   exact this
  ·have:=advance_fn31 l hl st har hst
   rw [s3_adv hst hk]
   unfold plD
   rw [plT_3 hl]
   exact this
  ·have:=advance_fn32 l hl st har hst
   rw [s3_adv hst hk]
   unfold plD
   rw [plT_3 hl]
   exact this
theorem isEnd_fn (l:List DT) (h:1<=l.length/\l.length<=3) (st:List Int) (hst:stP l st):Fn Tryz.prog 36 [⟨.ext .ref tPlanner,some (plD l)⟩,⟨tState,s3 st⟩] false [⟨.bool,bdec (endP l st)⟩]:=by
 unfold plD
 obtain hl|hl|hl:l.length=1\/l.length=2\/l.length=3:=by omega
 ·rw [plT_1 hl,s3_1 hst hl]; exact isEnd_fn1 l hl st hst
 ·rw [plT_2 hl,s3_2 hst hl]; exact isEnd_fn2 l hl st hst
 ·rw [plT_3 hl]; exact isEnd_fn3 l hl st hst
theorem fn_finer {P:Program} {f:FuncId} {d d':Dat} {rest:List Dat} {own:Bool} {res:List Dat} (hd:∀ w v fp,DRep w v d' fp->DRep w v d fp) (h:Fn P f (d :: rest) own res):Fn P f (d' :: rest) own res :=
 ⟨h.1,fun w vs S ha=>h.2 w vs S (by
  match vs,ha with
  | v :: vs,⟨⟨fp,h1,h2⟩,h3⟩=>exact ⟨⟨fp,hd w v fp h1,h2⟩,h3⟩)⟩
theorem plFm {P:Program} {f:FuncId} {l:List DT} {rest:List Dat} {own:Bool} {res:List Dat} (h:Fn P f (⟨.ext .ref tPlanner,some (plD l)⟩ :: rest) own res) (m:Nat):Fn P f (⟨.ext .ref (tPlF m),some (l,(plT l,()))⟩ :: rest) own res:=by
 refine fn_finer (fun w v fp hr=>?_) h
 obtain ⟨cs,hp,b,o,cs',fp',e1,e2,hr,hc⟩:=hr
 refine ⟨cs,hp,b,o,cs',fp',e1,e2,?_,hc⟩
 obtain ⟨c1,c2,f1,f2,q1,q2,r1,c3,c4,f3,f4,q3,q4,r2,r3,r4⟩:=hr
 exact ⟨c1,c2,f1,f2,q1,q2,r1,c3,c4,f3,f4,q3,q4,r2,_,r3,rfl,r4⟩
@[go_sem] theorem s3_a (st:List Int):(s3 st).1=ni st 0:=(rfl)
@[go_sem] theorem s3_b (st:List Int):(s3 st).2.1=ni st 1:=(rfl)
@[go_sem] theorem s3_c (st:List Int):(s3 st).2.2=ni st 2:=(rfl)
def canP (l:List DT) (st:List Int):Prop:=∃ o st',schGo l o st=some st'/\endP l st'
theorem canP_end {l:List DT} {st:List Int} (h:endP l st):canP l st:=⟨[],st,rfl,h⟩
theorem canP_step {l:List DT} {st:List Int} {k:Nat} (hk:k < l.length) (hf:frP l st k) (h:canP l (adv st k)):canP l st:=by
 obtain ⟨o,st',h1,h2⟩:=h
 refine ⟨(k:Int) :: o,st',?_,h2⟩
 rw [schGo_t ⟨by omega,by rw [Int.toNat_natCast]; exact hf⟩,Int.toNat_natCast]
 exact h1
theorem canP_inv {l:List DT} {st:List Int} (h:canP l st):endP l st\/∃ k,k < l.length/\frP l st k/\canP l (adv st k):=by
 obtain ⟨o,st',h1,h2⟩:=h
 cases o with
 | nil=>injection h1 with h1; subst h1; exact .inl h2
 | cons z o =>
  by_cases hz:okAt l st z
  ·rw [schGo_t hz] at h1
   exact .inr ⟨z.toNat,by have:=hz.1; omega,hz.2,o,st',h1,h2⟩
  ·rw [schGo_f hz] at h1; cases h1
def remN (l:List DT) (st:List Int):Nat:=((List.range l.length).map fun i=>((nth (t:=tTour) l i).2.2.length - ni st i).toNat).sum
theorem sum_lt {f g:Nat->Nat}:∀ {n k:Nat},k < n->(∀ i,i < n->i ≠ k->f i=g i)->f k < g k->((List.range n).map f).sum < ((List.range n).map g).sum
 | 0,k,h,_,_=>by omega
 | n+1,k,h,he,hl=>by
  rw [List.range_succ,List.map_append,List.map_append,List.sum_append,List.sum_append]
  simp only [List.map_cons,List.map_nil,List.sum_cons,List.sum_nil]
  by_cases hk:k=n
  ·subst hk
   have:(List.range k).map f=(List.range k).map g:=List.map_congr_left fun i hi=>he i (by have:=List.mem_range.1 hi; omega) (by have:=List.mem_range.1 hi; omega)
   rw [this]; omega
  ·have:=sum_lt (n:=n) (k:=k) (f:=f) (g:=g) (by omega) (fun i hi=>he i (by omega)) hl
   have:=he n (by omega) (fun e=>hk e.symm)
   omega
theorem remN_adv {l:List DT} {st:List Int} (hst:stP l st) {k:Nat} (hk:k < l.length) (hf:frP l st k):remN l (adv st k) < remN l st:=by
 have hk':k < st.length:=by rw [hst.1]; exact hk
 have hv:=hst.2 k hk'
 unfold stAt at hv
 have hne:=hf.1
 refine sum_lt hk (fun i hi hik=>?_) ?_
 ·simp only [ni_adv hk',if_neg hik]
 ·simp only [ni_adv hk',if_pos]
  omega
abbrev Memo:=List ((Int × Int × Int) × Bool)
def conP (l:List DT) (g:Memo):Prop:=∀ st b,stP l st->mlk g (s3 st)=some b->b=bdec (canP l st)
section
variable (l:List DT)
noncomputable def cfS (F:List Int->Memo->Memo) (st:List Int) (g:Memo):Nat->Bool × Memo
 | 0=>(bdec (endP l st),g)
 | k+1=>if (bdec (frP l st k) && !(cfS F st g k).1)=true then (bdec (canP l (adv st k)),F (adv st k) (cfS F st g k).2) else cfS F st g k
noncomputable def cfG:Nat->List Int->Memo->Memo
 | 0,_,g=>g
 | n+1,st,g=>match mlk g (s3 st) with
  | some _=>g
  | none=>(s3 st,(cfS l (cfG n) st g l.length).1) :: (cfS l (cfG n) st g l.length).2
end
theorem bdec_i {p q:Prop} (h:p ↔ q):bdec p=bdec q:=by
 by_cases hp:p
 ·rw [bdec_t hp,bdec_t (h.1 hp)]
 ·rw [bdec_f hp,bdec_f fun hq=>hp (h.2 hq)]
theorem cfS_val {l:List DT} {F:List Int->Memo->Memo} {st:List Int} {g:Memo}:∀ k,(cfS l F st g k).1=bdec (endP l st\/∃ j,j < k/\frP l st j/\canP l (adv st j))
 | 0=>bdec_i ⟨.inl,fun h=>h.elim id fun ⟨j,hj,_⟩=>absurd hj (Nat.not_lt_zero _)⟩
 | k+1=>by
  have ih:=cfS_val (l:=l) (F:=F) (st:=st) (g:=g) k
  unfold cfS
  by_cases hp:endP l st\/∃ j,j < k/\frP l st j/\canP l (adv st j)
  ·rw [bdec_t hp] at ih
   rw [ih,Bool.not_true,Bool.and_false,if_neg (by decide),ih,bdec_t (hp.imp id fun ⟨j,hj,h⟩=>⟨j,by omega,h⟩)]
  ·rw [bdec_f hp] at ih
   by_cases hf:frP l st k
   ·rw [ih,bdec_t hf,if_pos (by decide)]
    refine bdec_i ⟨fun h=>.inr ⟨k,by omega,hf,h⟩,fun h=>?_⟩
    rcases h with h|⟨j,hj,h⟩
    ·exact absurd (.inl h) hp
    ·by_cases hjk:j=k
     ·subst hjk; exact h.2
     ·exact absurd (.inr ⟨j,by omega,h⟩) hp
   ·rw [ih,bdec_f hf,if_neg (by decide),ih,bdec_f fun h=>?_]
    rcases h with h|⟨j,hj,h⟩
    ·exact hp (.inl h)
    ·by_cases hjk:j=k
     ·subst hjk; exact hf h.1
     ·exact hp (.inr ⟨j,by omega,h⟩)
theorem cfS_end {l:List DT} {F:List Int->Memo->Memo} {st:List Int} {g:Memo}:(cfS l F st g l.length).1=bdec (canP l st):=by
 rw [cfS_val]
 exact bdec_i ⟨fun h=>h.elim canP_end fun ⟨j,hj,h1,h2⟩=>canP_step hj h1 h2,canP_inv⟩
theorem s3_inj {l:List DT} (h:l.length<=3) {st st':List Int} (h1:stP l st) (h2:stP l st') (e:s3 st=s3 st'):st=st':=by
 have e0:ni st 0=ni st' 0:=congrArg (fun p:tState.den=>p.1) e
 have e1:ni st 1=ni st' 1:=congrArg (fun p:tState.den=>p.2.1) e
 have e2:ni st 2=ni st' 2:=congrArg (fun p:tState.den=>p.2.2) e
 have hl:=h1.1
 have hl':=h2.1
 refine List.ext_getElem (by omega) fun i hi hi'=>?_
 have:ni st i=ni st' i:=by
  obtain rfl|rfl|rfl:i=0\/i=1\/i=2:=by omega
  ·exact e0
  ·exact e1
  ·exact e2
 rw [ni_lt hi,ni_lt hi'] at this
 exact this
theorem cfG_con {l:List DT} (h3:l.length<=3):∀ n st g,stP l st->conP l g->conP l (cfG l n st g)
 | 0,_,_,_,hg=>hg
 | n+1,st,g,hst,hg=>by
  have ih:=cfG_con (l:=l) h3 n
  have hS:∀ k,k<=l.length->conP l (cfS l (cfG l n) st g k).2:=by
   intro k
   induction k with
   | zero=>intro _; exact hg
   | succ k ihk =>
    intro hk
    unfold cfS
    split
    ·rename_i h
     rw [Bool.and_eq_true] at h
     have hf:frP l st k:=by
      by_cases hf:frP l st k
      ·exact hf
      ·rw [bdec_f hf] at h; exact absurd h.1 (by decide)
     exact ih _ _ (stP_adv hst (by omega) hf.1) (ihk (by omega))
    ·exact ihk (by omega)
  unfold cfG
  split
  ·exact hg
  ·intro st' b hst' hb
   rw [mlk_cons] at hb
   split at hb
   ·rename_i e
    injection hb with hb
    rw [<-hb,cfS_end,s3_inj h3 hst hst' e]
   ·exact hS _ (Nat.le_refl _) st' b hst' hb
theorem keyOf_3 {P:Program} {k e:TypeId} (A:WideMaps.ArrKey P k e 3) (he:P.underlying e=some (.int .i64)) (hsz:∃ m,P.types.size=m+1) {s:Int × Int × Int} (hs:I3 s):∃ q,keyOf P k (K3 s)=some q:=by
 have wf:∀ {a:Int},I64 a->(Lit.int .i64 a).wf=true:=fun {a} h=>by
  obtain ⟨h1,h2⟩:=h
  unfold Lit.wf
  rw [Bool.and_eq_true,decide_eq_true_iff,decide_eq_true_iff,show IntKind.min .i64=-9223372036854775808 by decide,show IntKind.max .i64=9223372036854775807 by decide]
  exact ⟨h1,h2⟩
 have w1:=wf hs.1
 have w2:=wf hs.2.1
 have w3:=wf hs.2.2
 have hkt:=A.keyType hsz
 obtain ⟨m,hm⟩:=hsz
 refine ⟨.string (keyBytes [.int .i64 s.1,.int .i64 s.2.1,.int .i64 s.2.2]),?_⟩
 unfold keyOf K3
 simp only [A.hu]
 rw [if_pos (by simp [hkt,Value.formed,A.hu,A.size]),hm]
 unfold Program.keyLits
 simp only [A.hu,Value.cells]
 rw [if_pos (by rw [A.size]; rfl),show List.range 3=[0,1,2] from rfl,List.mapM_cons,List.mapM_cons,List.mapM_cons,List.mapM_nil]
 simp [A.one,Program.keyLits,he,w1,w2,w3]
theorem keyOK:KeyK Tryz.prog 112:=⟨68,4,by kernel_rfl,Maps.Keyed.of_law (deep_law_laid (by kernel_rfl) (m:=3) (by omega) (of_decide_eq_true (by kernel_rfl)) (by kernel_rfl) (by kernel_rfl)),fun s hs=>keyOf_3 (e:=3) ⟨by kernel_rfl,by kernel_rfl,by kernel_rfl,by kernel_rfl⟩ (by kernel_rfl) ⟨_,rfl⟩ hs,fun w=>by kernel_rfl⟩
@[go_sem] theorem keyOK_t:KeyK Tryz.prog 112=True:=eq_true keyOK
theorem tour8 {l:List DT} (h:arP l) {i:Nat} (hi:i < l.length):(nth (t:=tTour) l i).2.2.length<=8:=by
 have:=(tour_parts (h i hi).1).2.2.2.1
 omega
theorem nodup_sub {α:Type} [DecidableEq α]:∀ {L M:List α},L.Nodup->(∀ x ∈ L,x ∈ M)->L.length<=M.length
 | [],_,_,_=>Nat.zero_le _
 | a :: L,M,hn,hs=>by
  have ha:=hs a List.mem_cons_self
  have hn':=List.nodup_cons.1 hn
  have:=nodup_sub (L:=L) (M:=M.erase a) hn'.2 fun x hx=>(List.mem_erase_of_ne (fun e:x=a=>hn'.1 (e ▸ hx))).2 (hs x (List.mem_cons_of_mem _ hx))
  rw [List.length_erase_of_mem ha] at this
  have:0 < M.length:=List.length_pos_of_mem ha
  simp only [List.length_cons]; omega
theorem nodup_ltn {n:Nat} {L:List Nat} (h:L.Nodup) (hl:∀ x ∈ L,x < n):L.length<=n:=by
 have:=nodup_sub h (M:=List.range n) fun x hx=>List.mem_range.2 (hl x hx)
 rwa [List.length_range] at this
theorem sum_setI:∀ {L:List Int} {k:Nat} {v:Int} (h:k < L.length),(L.set k v).sum=L.sum - L[k]+v
 | a :: L,0,v,_=>by simp [List.sum_cons]; omega
 | a :: L,k+1,v,h=>by
  have:=sum_setI (L:=L) (k:=k) (v:=v) (by simpa using h)
  simp [List.sum_cons,this]; omega
theorem nodup_map' {α β:Type} {f:α->β}:∀ {L:List α},L.Nodup->(∀ x ∈ L,∀ y ∈ L,f x=f y->x=y)->(L.map f).Nodup
 | [],_,_=>List.nodup_nil
 | a :: L,h,hi=>by
  have h':=List.nodup_cons.1 h
  rw [List.map_cons,List.nodup_cons]
  refine ⟨fun hm=>?_,nodup_map' h'.2 fun x hx y hy=>hi x (List.mem_cons_of_mem _ hx) y (List.mem_cons_of_mem _ hy)⟩
  obtain ⟨y,hy,e⟩:=List.mem_map.1 hm
  exact h'.1 ((hi y (List.mem_cons_of_mem _ hy) a List.mem_cons_self e) ▸ hy)
theorem sum_adv {st:List Int} {k:Nat} (h:k < st.length):(adv st k).sum=st.sum+1:=by
 unfold adv
 rw [sum_setI h,ni_lt h]; omega
inductive Rea (l:List DT) (s:List Int):List Int->Prop
 | base:Rea l s s
 | step {t:List Int} {k:Nat}:Rea l s t->k < l.length->frP l t k->Rea l s (adv t k)
theorem Rea.val {l:List DT} {s t:List Int} (hs:stP l s) (h:Rea l s t):stP l t:=by
 induction h with
 | base=>exact hs
 | step h hk hf ih=>exact stP_adv ih hk hf.1
def cod (st:List Int):Nat:=(ni st 0).toNat+9 * (ni st 1).toNat+81 * (ni st 2).toNat
theorem ni_8 {l:List DT} (har:arP l) {st:List Int} (hst:stP l st) (i:Nat):0<=ni st i/\ni st i<=8:=by
 by_cases hi:i < st.length
 ·have:=hst.2 i hi
  have h8:=tour8 har (i:=i) (by rw [<-hst.1]; exact hi)
  unfold stAt at this
  omega
 ·rw [ni_ge (by omega)]; omega
theorem sum_24 {l:List DT} (har:arP l) (h3:l.length<=3) {st:List Int} (hst:stP l st):0<=st.sum/\st.sum<=24:=by
 have h0:=ni_8 har hst 0
 have h1:=ni_8 har hst 1
 have h2:=ni_8 har hst 2
 have hl:=hst.1
 match st,hl with
 | [],_=>simp
 | [a],_=>rw [ni_lt (by simp)] at h0; simp at h0 ⊢; omega
 | [a,b],_=>rw [ni_lt (by simp)] at h0 h1; simp at h0 h1 ⊢; omega
 | [a,b,c],_=>rw [ni_lt (by simp)] at h0 h1 h2; simp at h0 h1 h2 ⊢; omega
 | _ :: _ :: _ :: _ :: _,hl=>simp at hl; omega
theorem vals_le {l:List DT} (har:arP l) (h3:l.length<=3) {S:List (List Int)} (hn:S.Nodup) (hv:∀ t ∈ S,stP l t):S.length<=729:=by
 have:=nodup_ltn (n:=729) (L:=S.map cod) (nodup_map' hn fun x hx y hy e=>?_) fun x hx=>?_
 ·rwa [List.length_map] at this
 ·have h0:=ni_8 har (hv x hx) 0
  have h1:=ni_8 har (hv x hx) 1
  have h2:=ni_8 har (hv x hx) 2
  have g0:=ni_8 har (hv y hy) 0
  have g1:=ni_8 har (hv y hy) 1
  have g2:=ni_8 har (hv y hy) 2
  unfold cod at e
  have e0:ni x 0=ni y 0:=by omega
  have e1:ni x 1=ni y 1:=by omega
  have e2:ni x 2=ni y 2:=by omega
  refine s3_inj h3 (hv x hx) (hv y hy) (by unfold s3; rw [e0,e1,e2])
 ·obtain ⟨st,hs,rfl⟩:=List.mem_map.1 hx
  have h0:=ni_8 har (hv st hs) 0
  have h1:=ni_8 har (hv st hs) 1
  have h2:=ni_8 har (hv st hs) 2
  unfold cod
  omega
def RowK (l:List DT) (S:List (List Int)) (st row:List Int):Prop:=∀ k,k < row.length->(frP l st k->0<=ni row k/\S[(ni row k).toNat]? = some (adv st k))/\(¬ frP l st k->ni row k=-1)
structure Gr (l:List DT) (s0:List Int) (S:List (List Int)):Prop where
 ne:S[0]? = some s0
 nd:S.Nodup
 va:∀ t ∈ S,stP l t/\Rea l s0 t
 so:∀ (a b:Nat) (x y:List Int),a<=b->S[a]? = some x->S[b]? = some y->x.sum<=y.sum
theorem Gr.one {l:List DT} {s0:List Int} (h:stP l s0):Gr l s0 [s0] :=
 ⟨rfl,by simp,fun t ht=>by rw [List.mem_singleton.1 ht]; exact ⟨h,.base⟩,fun a b x y hab hx hy=>by
  obtain ⟨h1,e1⟩:=List.getElem?_eq_some_iff.1 hx
  obtain ⟨h2,e2⟩:=List.getElem?_eq_some_iff.1 hy
  simp at h1 h2; subst h1 h2
  simp at e1 e2; subst e1 e2; omega⟩
theorem Gr.push {l:List DT} {s0:List Int} {S:List (List Int)} (h:Gr l s0 S) {st:List Int} (hst:st ∈ S) {k:Nat} (hk:k < l.length) (hf:frP l st k) (hn:adv st k ∉ S) (hm:∀ x ∈ S,x.sum<=st.sum+1):Gr l s0 (S++[adv st k]):=by
 obtain ⟨v1,v2⟩:=h.va st hst
 have hsum:=sum_adv (st:=st) (k:=k) (by rw [v1.1]; exact hk)
 refine ⟨?_,?_,fun t ht=>?_,fun a b x y hab hx hy=>?_⟩
 ·have:=h.ne
  rw [List.getElem?_append_left (List.getElem?_eq_some_iff.1 this).1]; exact this
 ·rw [List.nodup_append]
  exact ⟨h.nd,by simp,fun x hx y hy e=>hn (by rw [List.mem_singleton.1 hy] at e; exact e ▸ hx)⟩
 ·rcases List.mem_append.1 ht with ht|ht
  ·exact h.va t ht
  ·rw [List.mem_singleton.1 ht]
   exact ⟨stP_adv v1 hk hf.1,v2.step hk hf⟩
 ·by_cases hb:b < S.length
  ·rw [List.getElem?_append_left hb] at hy
   rw [List.getElem?_append_left (by omega)] at hx
   exact h.so a b x y hab hx hy
  ·rw [List.getElem?_append_right (by omega)] at hy
   obtain ⟨h2,e2⟩:=List.getElem?_eq_some_iff.1 hy
   simp at h2
   have hb':b=S.length:=by omega
   subst hb'
   simp at e2; subst e2
   by_cases ha:a < S.length
   ·rw [List.getElem?_append_left ha] at hx
    rw [hsum]
    exact hm x (List.mem_of_getElem? hx)
   ·have:a=S.length:=by omega
    subst this
    simp at hx; subst hx; omega
theorem RowK.more {l:List DT} {S T:List (List Int)} {st row:List Int} (h:RowK l S st row):RowK l (S++T) st row:=fun k hk=>⟨fun hf=>by
  obtain ⟨h1,h2⟩:=(h k hk).1 hf
  exact ⟨h1,by rw [List.getElem?_append_left (List.getElem?_eq_some_iff.1 h2).1]; exact h2⟩,(h k hk).2⟩
theorem ni_app {row:List Int} {v:Int} {k:Nat}:ni (row++[v]) k=if k < row.length then ni row k else if k=row.length then v else 0:=by
 by_cases h:k < row.length
 ·rw [if_pos h,ni_lt (by simp; omega),ni_lt h,List.getElem_append_left h]
 ·rw [if_neg h]
  by_cases e:k=row.length
  ·subst e; rw [if_pos rfl,ni_lt (by simp)]; simp
  ·rw [if_neg e,ni_ge (by simp; omega)]
theorem RowK.snoc {l:List DT} {S:List (List Int)} {st row:List Int} {v:Int} (h:RowK l S st row) (hv:(frP l st row.length->0<=v/\S[v.toNat]? = some (adv st row.length))/\(¬ frP l st row.length->v=-1)):RowK l S st (row++[v]):=fun k hk=>by
 rw [ni_app]
 by_cases h1:k < row.length
 ·rw [if_pos h1]; exact h k h1
 ·have:k=row.length:=by simp at hk; omega
  subst this
  rw [if_neg h1,if_pos rfl]; exact hv
structure GrI (l:List DT) (s0:List Int) (S N:List (List Int)):Prop where
 g:Gr l s0 S
 len:N.length<=S.length
 row:∀ (j:Nat) (row st:List Int),N[j]? = some row->S[j]? = some st->row.length=l.length/\RowK l S st row
 top:∀ x ∈ S,∀ st,S[N.length]? = some st->x.sum<=st.sum+1
theorem GrI.one {l:List DT} {s0:List Int} (h:stP l s0):GrI l s0 [s0] [] :=
 ⟨.one h,Nat.zero_le _,fun j row st h=>by simp at h,fun x hx st hst=>by
  simp at hst; subst hst; rw [List.mem_singleton.1 hx]; omega⟩
theorem GrI.push {l:List DT} {s0:List Int} {S N:List (List Int)} (h:GrI l s0 S N) {st:List Int} (hst:S[N.length]? = some st) {k:Nat} (hk:k < l.length) (hf:frP l st k) (hn:adv st k ∉ S):GrI l s0 (S++[adv st k]) N:=by
 have hm:=List.mem_of_getElem? hst
 have hlt:=(List.getElem?_eq_some_iff.1 hst).1
 have hsum:=sum_adv (st:=st) (k:=k) (by rw [(h.g.va st hm).1.1]; exact hk)
 refine ⟨h.g.push hm hk hf hn fun x hx=>h.top x hx st hst,by simp; omega,fun j row st' h1 h2=>?_,fun x hx st' hst'=>?_⟩
 ·have hj:=(List.getElem?_eq_some_iff.1 h1).1
  rw [List.getElem?_append_left (by omega)] at h2
  obtain ⟨r1,r2⟩:=h.row j row st' h1 h2
  exact ⟨r1,r2.more⟩
 ·rw [List.getElem?_append_left hlt,hst] at hst'
  injection hst' with hst'; subst hst'
  rcases List.mem_append.1 hx with hx|hx
  ·exact h.top x hx st hst
  ·rw [List.mem_singleton.1 hx,hsum]; omega
theorem GrI.next {l:List DT} {s0:List Int} {S N:List (List Int)} (h:GrI l s0 S N) {st row:List Int} (hst:S[N.length]? = some st) (h1:row.length=l.length) (h2:RowK l S st row):GrI l s0 S (N++[row]):=by
 have hlt:=(List.getElem?_eq_some_iff.1 hst).1
 refine ⟨h.g,by simp; omega,fun j row' st' g1 g2=>?_,fun x hx st' hst'=>?_⟩
 ·by_cases hj:j < N.length
  ·rw [List.getElem?_append_left hj] at g1
   exact h.row j row' st' g1 g2
  ·rw [List.getElem?_append_right (by omega)] at g1
   obtain ⟨h4,e4⟩:=List.getElem?_eq_some_iff.1 g1
   simp at h4
   have:j=N.length:=by omega
   subst this
   simp at e4; subst e4
   rw [hst] at g2; injection g2 with g2; subst g2
   exact ⟨h1,h2⟩
 ·have:=h.top x hx st hst
  simp at hst'
  have:=h.g.so N.length (N.length+1) st st' (by omega) hst hst'
  omega
theorem GrI.mem {l:List DT} {s0:List Int} {S N:List (List Int)} (h:GrI l s0 S N) (he:N.length=S.length) (t:List Int):t ∈ S ↔ Rea l s0 t:=by
 refine ⟨fun ht=>(h.g.va t ht).2,fun ht=>?_⟩
 induction ht with
 | base=>exact List.mem_of_getElem? h.g.ne
 | @step t k _ hk hf ih =>
  obtain ⟨j,hj,rfl⟩:=List.getElem_of_mem ih
  obtain ⟨r1,r2⟩:=h.row j (N[j]'(by omega)) S[j] (List.getElem?_eq_getElem (by omega)) (List.getElem?_eq_getElem hj)
  exact List.mem_of_getElem? ((r2 k (by omega)).1 hf).2
theorem GrI.later {l:List DT} {s0:List Int} {S N:List (List Int)} (h:GrI l s0 S N) {j m k:Nat} {st:List Int} (hst:S[j]? = some st) (hk:k < l.length) (hm:S[m]? = some (adv st k)):j < m:=by
 have hs:=sum_adv (st:=st) (k:=k) (by rw [(h.g.va st (List.mem_of_getElem? hst)).1.1]; exact hk)
 by_cases hjm:j < m
 ·exact hjm
 ·have:=h.g.so m j _ _ (by omega) hm hst
  omega
def okF (l:List DT) (st:List Int) (k:Nat):Prop:=frP l st k/\canP l (adv st k)
noncomputable def coo (l:List DT):Nat->List Int->List Int
 | 0,_=>[]
 | n+1,st=>bif bdec (endP l st) then [] else match (List.range l.length).find? (fun k=>bdec (okF l st k)) with
  | some k=>(k:Int) :: coo l n (adv st k)
  | none=>[]
theorem coo_s (l:List DT) (n:Nat) (st:List Int):coo l (n+1) st=bif bdec (endP l st) then [] else match (List.range l.length).find? (fun k=>bdec (okF l st k)) with
  | some k=>(k:Int) :: coo l n (adv st k)
  | none=>[]:=by rw [coo]
theorem coo_end {l:List DT} {st:List Int} (h:endP l st) (n:Nat):coo l n st=[]:=by
 cases n with
 | zero=>rfl
 | succ n=>rw [coo_s,bdec_t h]; rfl
theorem coo_step {l:List DT} {st:List Int} {n k:Nat} (h:¬ endP l st) (hk:k < l.length) (hf:okF l st k) (hn:∀ j,j < k->¬ okF l st j):coo l (n+1) st=(k:Int) :: coo l n (adv st k):=by
 have:(List.range l.length).find? (fun k=>bdec (okF l st k))=some k:=by
  rw [List.find?_range_eq_some]
  exact ⟨bdec_t hf,List.mem_range.2 hk,fun j hj=>by rw [bdec_f (hn j hj)]; rfl⟩
 rw [coo_s,this,bdec_f h]
 rfl
theorem okF_ex {l:List DT} {st:List Int} (h:canP l st) (he:¬ endP l st):∃ k,k < l.length/\okF l st k:=(canP_inv h).elim (fun h=>absurd h he) fun ⟨k,h1,h2,h3⟩=>⟨k,h1,h2,h3⟩
def CoI (l:List DT) (s0 st out:List Int):Prop:=stP l st/\canP l st/\st.sum=s0.sum+out.length/\∃ m,remN l st<=m/\out++coo l m st=coo l (remN l s0) s0
theorem CoI.start {l:List DT} {s0:List Int} (h:stP l s0) (hc:canP l s0):CoI l s0 s0 []:=⟨h,hc,by simp,_,Nat.le_refl _,rfl⟩
theorem CoI.step {l:List DT} {s0 st out:List Int} (h:CoI l s0 st out) {k:Nat} (he:¬ endP l st) (hk:k < l.length) (hf:okF l st k) (hn:∀ j,j < k->¬ okF l st j):CoI l s0 (adv st k) (out++[(k:Int)]):=by
 obtain ⟨h1,h2,hsm,m,h3,h4⟩:=h
 have hr:=remN_adv h1 hk hf.1
 have hsa:=sum_adv (st:=st) (k:=k) (by rw [h1.1]; exact hk)
 obtain ⟨m,rfl⟩:∃ m',m=m'+1:=⟨m - 1,by omega⟩
 rw [coo_step he hk hf hn] at h4
 exact ⟨stP_adv h1 hk hf.1.1,hf.2,by rw [hsa,hsm]; simp; omega,m,by omega,by rw [<-h4]; simp⟩
theorem CoI.fin {l:List DT} {s0 st out:List Int} (h:CoI l s0 st out) (he:endP l st):out=coo l (remN l s0) s0:=by
 obtain ⟨_,_,_,m,_,h4⟩:=h
 rw [coo_end he] at h4
 simpa using h4
theorem Rea.trans {l:List DT} {s t u:List Int} (h:Rea l s t) (g:Rea l t u):Rea l s u:=by
 induction g with
 | base=>exact h
 | step _ hk hf ih=>exact ih.step hk hf
theorem sch_rea {l:List DT}:∀ {o s t:List Int},schGo l o s=some t->Rea l s t
 | [],s,t,h=>by injection h with h; subst h; exact .base
 | k :: o,s,t,h=>by
  by_cases hk:okAt l s k
  ·rw [schGo_t hk] at h
   exact (Rea.base.step (by have:=hk.1; omega) hk.2).trans (sch_rea h)
  ·rw [schGo_f hk] at h; cases h
theorem sch_sum {l:List DT}:∀ {o s t:List Int},stP l s->schGo l o s=some t->t.sum=s.sum+o.length
 | [],s,t,_,h=>by injection h with h; subst h; simp
 | k :: o,s,t,hs,h=>by
  by_cases hk:okAt l s k
  ·rw [schGo_t hk] at h
   have hk':k.toNat < l.length:=by have:=hk.1; omega
   have:=sch_sum (stP_adv hs hk' hk.2.1) h
   rw [sum_adv (by rw [hs.1]; exact hk')] at this
   simp only [List.length_cons]; omega
  ·rw [schGo_f hk] at h; cases h
theorem coo_sch {l:List DT}:∀ (m:Nat) {s:List Int},stP l s->canP l s->remN l s<=m->∃ t,schGo l (coo l m s) s=some t/\endP l t:=by
 intro m
 induction m with
 | zero =>
  intro s hs hc hm
  by_cases he:endP l s
  ·exact ⟨s,by rw [coo_end he]; rfl,he⟩
  ·obtain ⟨k,hk,hf⟩:=okF_ex hc he
   have:=remN_adv hs hk hf.1
   omega
 | succ m ih =>
  intro s hs hc hm
  by_cases he:endP l s
  ·exact ⟨s,by rw [coo_end he]; rfl,he⟩
  ·obtain ⟨k0,hk0,hf0⟩:=okF_ex hc he
   obtain ⟨k,hk,hf,hn⟩:∃ k,k < l.length/\okF l s k/\∀ j,j < k->¬ okF l s j:=by
    cases hq:(List.range l.length).find? (fun k=>bdec (okF l s k)) with
    | none =>
     have:=List.find?_eq_none.1 hq k0 (List.mem_range.2 hk0)
     rw [bdec_t hf0] at this
     exact absurd rfl this
    | some k =>
     rw [List.find?_range_eq_some] at hq
     obtain ⟨h1,h2,h3⟩:=hq
     refine ⟨k,List.mem_range.1 h2,?_,fun j hj hf=>?_⟩
     ·by_cases hf:okF l s k
      ·exact hf
      ·rw [bdec_f hf] at h1; cases h1
     ·have:=h3 j hj
      rw [bdec_t hf] at this
      cases this
   have hr:=remN_adv hs hk hf.1
   obtain ⟨t,h1,h2⟩:=ih (stP_adv hs hk hf.1.1) hf.2 (by omega)
   refine ⟨t,?_,h2⟩
   rw [coo_step he hk hf hn,schGo_t ⟨by omega,by rw [Int.toNat_natCast]; exact hf.1⟩,Int.toNat_natCast]
   exact h1
theorem cfS_con {l:List DT} (h3:l.length<=3) {n:Nat} {st:List Int} {g:Memo} (hst:stP l st) (hg:conP l g):∀ k,k<=l.length->conP l (cfS l (cfG l n) st g k).2:=by
 intro k
 induction k with
 | zero=>intro _; exact hg
 | succ k ihk =>
  intro hk
  unfold cfS
  split
  ·rename_i h
   rw [Bool.and_eq_true] at h
   have hf:frP l st k:=by
    by_cases hf:frP l st k
    ·exact hf
    ·rw [bdec_f hf] at h; exact absurd h.1 (by decide)
   exact cfG_con h3 n _ _ (stP_adv hst (by omega) hf.1) (ihk (by omega))
  ·exact ihk (by omega)
theorem cfS_s {l:List DT} {F:List Int->Memo->Memo} {st:List Int} {g:Memo} {k:Nat} {b:Bool} {g':Memo} (h:cfS l F st g k=(b,g')):cfS l F st g (k+1)=if (bdec (frP l st k) && !b)=true then (bdec (canP l (adv st k)),F (adv st k) g') else (b,g'):=by
 rw [cfS,h]
set_option maxHeartbeats 4000000 in
theorem canFinish_fn (l:List DT) (h:1<=l.length/\l.length<=3) (har:arP l):∀ (n:Nat) (st:List Int) (g:Memo),stP l st->conP l g->remN l st < n->FnW Tryz.prog 44 (fun m=>[⟨.ext .ref (tPlF m),some (l,(plT l,()))⟩,⟨tState,s3 st⟩]) (MapI g) (MapI (cfG l n st g)) [⟨.bool,bdec (canP l st)⟩]
 | 0,st,g,hst,hg,hn=>by omega
 | n+1,st,g,hst,hg,hn=>by
  have hs3:s3 st=(ni st 0,ni st 1,ni st 2):=rfl
  cases hm:mlk g (s3 st) with
  | some b =>
   have hm':mlk g (ni st 0,ni st 1,ni st 2)=some b:=hm
   have hb:=hg st b hst hm
   rw [show cfG l (n+1) st g=g by unfold cfG; rw [hm],<-hb]
   refine fnM_enter tabOK mixes Tryz.func44 rfl rfl _ Tryz.ntmps44 _ Tryz.results44 (by rfl) (by simp) fun m hwf=>?_
   try simp (maxSteps:=9^9) only[go_sem,hm']
   all_goals repeat refine AI ?_
   all_goals first|kernel_rfl|omega|rfl
  | none =>
   have hm':mlk g (ni st 0,ni st 1,ni st 2)=none:=hm
   have hcf:cfG l (n+1) st g=(s3 st,bdec (canP l st)) :: (cfS l (cfG l n) st g l.length).2:=by
    rw [cfG,hm,<-cfS_end (F:=cfG l n) (g:=g)]
   rw [hcf]
   have c1:=fun m=>plFm (isEnd_fn l h st hst) m
   refine fnM_enter tabOK mixes Tryz.func44 rfl rfl _ Tryz.ntmps44 _ Tryz.results44 (by rfl) (by simp) fun m hwf=>?_
   try simp (maxSteps:=9^9) only[go_sem,hm']
   repeat refine AI ?_
   repeat refine AI ?_
   refine CallW.h 0 (c1) ?_
   try simp (maxSteps:=9^9) only[go_sem]
   repeat refine AI ?_
   refine LoopG.intro _ _ _ (fun y:Nat × Bool × Memo=>⟨[(0,.ref (tPlF m) (l,(plT l,())) 0),(3,.ptr 1 0),(7,.sc (.bool y.2.1)),(29,.sc (.int .i64 l.length)),(30,.sc (.int .i64 y.1))],[(0,.ob (some (.map (some m))) 0 (.map y.2.2)),(1,.box (cel tState (s3 st)))]⟩) (fun y=>y.1<=l.length/\cfS l (cfG l n) st g y.1=y.2) (fun y=>l.length - y.1) (0,bdec (endP l st),g) ?_ ⟨Nat.zero_le _,rfl⟩ ?_
   ·exact WK
   ·rintro ⟨k,b,g'⟩ ⟨hk,hy⟩
    dsimp only at hk hy
    try simp (maxSteps:=9^9) only[go_sem]
    refine CondW_dec (fun hA=>?_) (fun hA=>?_)
    ·have hlt:k < l.length:=by omega
     have c2:=fun m=>plFm (advance_fn l h st har hst k hlt) m
     have hys:=cfS_s hy
     by_cases hf:frP l st k
     ·rw [bdec_t hf] at hys
      simp only [bdec_t hf,cond_true] at c2
      cases b with
      | true =>
       try simp (maxSteps:=9^9) only[go_sem]
       repeat refine AI ?_
       repeat refine AI ?_
       refine CallW.h 0 (c2) ?_
       try simp (maxSteps:=9^9) only[go_sem]
       repeat refine AI ?_
       refine LoopK.mk (k+1,true,g') ?_ ⟨by omega,hys⟩ (by dsimp only; omega)
       exact WK
      | false =>
       have hcon:=cfS_con h.2 (n:=n) hst hg k hk
       rw [hy] at hcon
       have hr:=remN_adv hst hlt hf
       have c3:=canFinish_fn l h har n (adv st k) g' (stP_adv hst hlt hf.1) hcon (by omega)
       try simp (maxSteps:=9^9) only[go_sem]
       repeat refine AI ?_
       repeat refine AI ?_
       refine CallW.h 0 (c2) ?_
       try simp (maxSteps:=9^9) only[go_sem]
       repeat refine AI ?_
       repeat refine AI ?_
       refine CallW.mp 0 (c3) ?_
       try simp (maxSteps:=9^9) only[go_sem]
       repeat refine AI ?_
       refine LoopK.mk (k+1,bdec (canP l (adv st k)),cfG l n (adv st k) g') ?_ ⟨by omega,hys⟩ (by dsimp only; omega)
       exact WK
     ·rw [bdec_f hf] at hys
      simp only [bdec_f hf,cond_false] at c2
      try simp (maxSteps:=9^9) only[go_sem]
      repeat refine AI ?_
      repeat refine AI ?_
      refine CallW.h 0 (c2) ?_
      try simp (maxSteps:=9^9) only[go_sem]
      repeat refine AI ?_
      refine LoopK.mk (k+1,b,g') ?_ ⟨by omega,hys⟩ (by dsimp only; omega)
      exact WK
    ·obtain rfl:k=l.length:=by omega
     have e1:(cfS l (cfG l n) st g l.length).2=g':=by rw [hy]
     have e2:bdec (canP l st)=b:=by rw [<-cfS_end (F:=cfG l n) (g:=g),hy]
     rw [e1,e2]
     try simp (maxSteps:=9^9) only[go_sem]
     all_goals repeat refine AI ?_
     all_goals first|kernel_rfl|omega|rfl
theorem conP_nil {l:List DT}:conP l []:=fun _ _ _ h=>by cases h
abbrev st0 (l:List DT):List Int:=List.replicate l.length 0
theorem s3_zero (l:List DT):s3 (st0 l)=((0:Int),(0:Int),(0:Int)):=by
 have:∀ i,ni (st0 l) i=0:=fun i=>by
  by_cases h:i < (st0 l).length
  ·rw [ni_lt h]; simp
  ·exact ni_ge (by omega)
 unfold s3
 rw [this,this,this]
def crdP (l:List DT):Prop:=arB l=true/\canP l (st0 l)
noncomputable def crdL (l:List DT):List Int:=if bdec (crdP l)=true then coo l (remN l (st0 l)) (st0 l) else []
set_option maxHeartbeats 4000000 in
theorem CoordinateI_fn (l:List DT):FnT Tryz.prog 14 [⟨.slice tTour,l⟩] [⟨tInts,crdL l⟩,⟨.bool,bdec (crdP l)⟩]:=by
 have c0:=AreToursI_fn l
 cases ha:arB l<;>rw [ha] at c0
 ·have e:bdec (crdP l)=false:=bdec_f fun h=>by have:=h.1; rw [ha] at this; cases this
  rw [show crdL l=[] by unfold crdL; rw [e]; rfl,e]
  refine fnT_enter tabOK mixes Tryz.func14 rfl rfl _ Tryz.ntmps14 _ Tryz.results14 (by simp) fun hwf=>?_
  try simp (maxSteps:=9^9) only[go_sem]
  repeat refine AI ?_
  refine cw c0 ?_
  try simp (maxSteps:=9^9) only[go_sem]
  all_goals repeat refine AI ?_
  all_goals first|kernel_rfl|omega|rfl
 ·have har:=arB_p ha
  have c2:=newPlanner_fn l har.1
  have hs0:=stP_zero l
  have c4:=canFinish_fn l har.1 har.2 (remN l (st0 l)+1) (st0 l) [] hs0 conP_nil (by omega)
  rw [s3_zero] at c4
  by_cases hc:canP l (st0 l)
  rotate_left
  ·have e:bdec (crdP l)=false:=bdec_f fun h=>hc h.2
   rw [show crdL l=[] by unfold crdL; rw [e]; rfl,e]
   rw [bdec_f hc] at c4
   refine fnT_enter tabOK mixes Tryz.func14 rfl rfl _ Tryz.ntmps14 _ Tryz.results14 (by simp) fun hwf=>?_
   try simp (maxSteps:=9^9) only[go_sem]
   repeat refine AI ?_
   refine cw c0 ?_
   try simp (maxSteps:=9^9) only[go_sem]
   repeat refine AI ?_
   repeat refine AI ?_
   refine CallW.np (c2) ?_
   try simp (maxSteps:=9^9) only[go_sem]
   repeat refine AI ?_
   refine CallW.mp 1 (c4) ?_
   try simp (maxSteps:=9^9) only[go_sem]
   all_goals repeat refine AI ?_
   all_goals first|kernel_rfl|omega|rfl
  ·have e:bdec (crdP l)=true:=bdec_t ⟨ha,hc⟩
   rw [show crdL l=coo l (remN l (st0 l)) (st0 l) by unfold crdL; rw [e]; rfl,e]
   rw [bdec_t hc] at c4
   have z0:∀ i,ni (List.replicate l.length 0) i=0:=fun i=>by
    by_cases h:i < (List.replicate l.length (0:Int)).length
    ·rw [ni_lt h]; simp
    ·exact ni_ge (by omega)
   have hg0:=cfG_con har.1.2 (remN l (st0 l)+1) (st0 l) [] hs0 conP_nil
   refine fnT_enter tabOK mixes Tryz.func14 rfl rfl _ Tryz.ntmps14 _ Tryz.results14 (by simp) fun hwf=>?_
   try simp (maxSteps:=9^9) only[go_sem]
   repeat refine AI ?_
   refine cw c0 ?_
   try simp (maxSteps:=9^9) only[go_sem]
   repeat refine AI ?_
   repeat refine AI ?_
   refine CallW.np (c2) ?_
   try simp (maxSteps:=9^9) only[go_sem]
   repeat refine AI ?_
   refine CallW.mp 1 (c4) ?_
   try simp (maxSteps:=9^9) only[go_sem]
   repeat refine AI ?_
   refine LoopG.intro _ _ _ (fun y:List Int × List Int × Memo=>⟨[(0,.sl tTour l),(4,.ptr 0 0),(5,.ptr 2 0),(6,.row 3 0)],[(0,.box (cel tPl0 (l,plT l)++[.row 1 0])),(1,.ob none 0 (.map y.2.2)),(2,.box (cel tState (s3 y.1))),(3,.row 3 .int 0 true y.2.1)]⟩) (fun y=>CoI l (st0 l) y.1 y.2.1/\conP l y.2.2) (fun y=>remN l y.1) (st0 l,[],cfG l (remN l (st0 l)+1) (st0 l) []) ?_ ⟨CoI.start hs0 hc,hg0⟩ ?_
   ·refine Wk.mk [] ?_
    try simp (maxSteps:=9^9) only[go_sem,z0]
    try (and_intros<;>first|rfl|omega|exact ⟨_,rfl⟩)
   ·rintro ⟨st,out,g⟩ ⟨hco,hg⟩
    dsimp only at hco hg
    have hst:=hco.1
    have hlen:=hco.2.2.1
    have hsu:=sum_24 har.2 har.1.2 hst
    have hsu0:0<=(st0 l).sum/\(st0 l).sum<=24:=sum_24 har.2 har.1.2 hs0
    have hb1:(out.length+1) * 8<=140737488355328:=by omega
    have hb2:out.length<=9223372036854775806:=by omega
    have c5:=fun m=>plFm (isEnd_fn l har.1 st hst) m
    by_cases he:endP l st
    ·simp only [bdec_t he] at c5
     have ho:=hco.fin he
     rw [<-ho]
     try simp (maxSteps:=9^9) only[go_sem]
     repeat refine AI ?_
     repeat refine AI ?_
     refine CallW.h 1 (c5) ?_
     try simp (maxSteps:=9^9) only[go_sem]
     all_goals repeat refine AI ?_
     all_goals first|kernel_rfl|omega|rfl
    ·simp only [bdec_f he] at c5
     try simp (maxSteps:=9^9) only[go_sem]
     repeat refine AI ?_
     repeat refine AI ?_
     refine CallW.h 1 (c5) ?_
     try simp (maxSteps:=9^9) only[go_sem]
     repeat refine AI ?_
     refine LoopG.intro _ _ _ (fun y:Nat × Memo=>⟨[(0,.sl tTour l),(4,.ptr 0 0),(5,.ptr 2 0),(6,.row 3 0),(26,.sc (.int .i64 l.length)),(27,.sc (.int .i64 y.1))],[(0,.box (cel tPl0 (l,plT l)++[.row 1 0])),(1,.ob none 0 (.map y.2)),(2,.box (cel tState (s3 st))),(3,.row 3 .int 0 true out)]⟩) (fun y=>y.1<=l.length/\conP l y.2/\∀ j,j < y.1->¬ okF l st j) (fun y=>l.length - y.1) (0,g) ?_ ⟨Nat.zero_le _,hg,fun j hj=>absurd hj (Nat.not_lt_zero _)⟩ ?_
     ·exact WK
     ·rintro ⟨k,g'⟩ ⟨hk,hg',hno⟩
      dsimp only at hk hg' hno
      try simp (maxSteps:=9^9) only[go_sem]
      refine CondW_dec (fun hA=>?_) (fun hA=>?_)
      ·have hlt:k < l.length:=by omega
       have c6:=fun m=>plFm (advance_fn l har.1 st har.2 hst k hlt) m
       by_cases hf:frP l st k
       ·simp only [bdec_t hf,cond_true] at c6
        have c7:=canFinish_fn l har.1 har.2 (remN l (adv st k)+1) (adv st k) g' (stP_adv hst hlt hf.1) hg' (by omega)
        have hg2:=cfG_con har.1.2 (remN l (adv st k)+1) (adv st k) g' (stP_adv hst hlt hf.1) hg'
        by_cases hcn:canP l (adv st k)
        ·rw [bdec_t hcn] at c7
         have hco':=hco.step he hlt ⟨hf,hcn⟩ hno
         have hr:=remN_adv hst hlt hf
         try simp (maxSteps:=9^9) only[go_sem]
         repeat refine AI ?_
         repeat refine AI ?_
         refine CallW.h 1 (c6) ?_
         try simp (maxSteps:=9^9) only[go_sem]
         repeat refine AI ?_
         repeat refine AI ?_
         refine CallW.mp 1 (c7) ?_
         try simp (maxSteps:=9^9) only[go_sem]
         refine ⟨hb1,hb2,?_⟩
         repeat refine AI ?_
         refine LoopK.mk (adv st k,out++[(k:Int)],cfG l (remN l (adv st k)+1) (adv st k) g') ?_ ⟨hco',hg2⟩ hr
         exact WK
        ·rw [bdec_f hcn] at c7
         try simp (maxSteps:=9^9) only[go_sem]
         repeat refine AI ?_
         repeat refine AI ?_
         refine CallW.h 1 (c6) ?_
         try simp (maxSteps:=9^9) only[go_sem]
         repeat refine AI ?_
         repeat refine AI ?_
         refine CallW.mp 1 (c7) ?_
         try simp (maxSteps:=9^9) only[go_sem]
         repeat refine AI ?_
         refine LoopK.mk (k+1,cfG l (remN l (adv st k)+1) (adv st k) g') ?_ ⟨by dsimp only; omega,hg2,fun j hj hok=>?_⟩ (by dsimp only; omega)
         ·exact WK
         ·by_cases h:j < k
          ·exact hno j h hok
          ·rw [show j=k by dsimp only at hj; omega] at hok
           exact hcn hok.2
       ·simp only [bdec_f hf,cond_false] at c6
        try simp (maxSteps:=9^9) only[go_sem]
        repeat refine AI ?_
        repeat refine AI ?_
        refine CallW.h 1 (c6) ?_
        try simp (maxSteps:=9^9) only[go_sem]
        repeat refine AI ?_
        refine LoopK.mk (k+1,g') ?_ ⟨by dsimp only; omega,hg',fun j hj hok=>?_⟩ (by dsimp only; omega)
        ·exact WK
        ·by_cases h:j < k
         ·exact hno j h hok
         ·rw [show j=k by dsimp only at hj; omega] at hok
          exact hf hok.1
      ·obtain ⟨k',h1,h2⟩:=okF_ex hco.2.1 he
       exact absurd h2 (hno k' (by omega))
def idxS:List (List Int)->List Int->Nat->Int
 | [],_,_=>-1
 | x :: S,t,n=>if x=t then (n:Int) else idxS S t (n+1)
theorem idxS_in:∀ {S:List (List Int)} {t:List Int} {n i:Nat},S[i]? = some t->(∀ j,j < i->S[j]? ≠ some t)->idxS S t n=(n+i:Nat)
 | [],t,n,i,h,_=>by simp at h
 | x :: S,t,n,0,h,_=>by
  simp at h; subst h
  unfold idxS; rw [if_pos rfl]; rfl
 | x :: S,t,n,i+1,h,hm=>by
  have h0:=hm 0 (by omega)
  have hne:x ≠ t:=fun e=>h0 (by simp [e])
  unfold idxS
  rw [if_neg hne,idxS_in (i:=i) (by simpa using h) fun j hj=>by have:=hm (j+1) (by omega); simpa using this]
  omega
theorem first_ex {S:List (List Int)} {t:List Int} (h:t ∈ S):∃ i:Nat,S[i]? = some t/\∀ j,j < i->S[j]? ≠ some t:=by
 induction S with
 | nil=>cases h
 | cons x S ih =>
  by_cases e:x=t
  ·exact ⟨0,by simp [e],fun j hj=>absurd hj (Nat.not_lt_zero _)⟩
  ·rcases List.mem_cons.1 h with h|h
   ·exact absurd h.symm e
   ·obtain ⟨i,h1,h2⟩:=ih h
    refine ⟨i+1,by simpa using h1,fun j hj=>?_⟩
    cases j with
    | zero=>simp [e]
    | succ j=>have:=h2 j (by omega); simpa using this
noncomputable def rowS (l:List DT) (st:List Int) (S:List (List Int)):Nat->List (List Int) × List Int
 | 0=>(S,[])
 | k+1=>bif bdec (frP l st k) then
   (if adv st k ∈ (rowS l st S k).1 then ((rowS l st S k).1,(rowS l st S k).2++[idxS (rowS l st S k).1 (adv st k) 0])
    else ((rowS l st S k).1++[adv st k],(rowS l st S k).2++[((rowS l st S k).1.length:Int)]))
  else ((rowS l st S k).1,(rowS l st S k).2++[-1])
noncomputable def grS (l:List DT) (s0:List Int):Nat->List (List Int) × List (List Int)
 | 0=>([s0],[])
 | i+1=>match (grS l s0 i).1[i]? with
  | some st=>((rowS l st (grS l s0 i).1 l.length).1,(grS l s0 i).2++[(rowS l st (grS l s0 i).1 l.length).2])
  | none=>grS l s0 i
theorem rowS_f {l:List DT} {st:List Int} {S S':List (List Int)} {row:List Int} {k:Nat} (h:rowS l st S k=(S',row)) (hf:¬ frP l st k):rowS l st S (k+1)=(S',row++[-1]):=by
 rw [rowS,bdec_f hf,h]; rfl
theorem rowS_i {l:List DT} {st:List Int} {S S':List (List Int)} {row:List Int} {k i:Nat} (h:rowS l st S k=(S',row)) (hf:frP l st k) (hi:S'[i]? = some (adv st k)) (hm:∀ j,j < i->S'[j]? ≠ some (adv st k)):rowS l st S (k+1)=(S',row++[(i:Int)]):=by
 rw [rowS,bdec_t hf,h]
 show (if adv st k ∈ S' then (S',row++[idxS S' (adv st k) 0]) else (S'++[adv st k],row++[(S'.length:Int)]))=_
 rw [if_pos (List.mem_of_getElem? hi),idxS_in hi hm,Nat.zero_add]
theorem rowS_n {l:List DT} {st:List Int} {S S':List (List Int)} {row:List Int} {k:Nat} (h:rowS l st S k=(S',row)) (hf:frP l st k) (hn:adv st k ∉ S'):rowS l st S (k+1)=(S'++[adv st k],row++[(S'.length:Int)]):=by
 rw [rowS,bdec_t hf,h]
 show (if adv st k ∈ S' then (S',row++[idxS S' (adv st k) 0]) else (S'++[adv st k],row++[(S'.length:Int)]))=_
 rw [if_neg hn]
theorem grS_s {l:List DT} {s0 st:List Int} {S N S':List (List Int)} {row:List Int} {i:Nat} (h:grS l s0 i=(S,N)) (hst:S[i]? = some st) (hr:rowS l st S l.length=(S',row)):grS l s0 (i+1)=(S',N++[row]):=by
 rw [grS,h]
 simp only
 rw [hst]
 simp only
 rw [hr]
theorem grS_e {l:List DT} {s0:List Int} {S N:List (List Int)} {i:Nat} (h:grS l s0 i=(S,N)) (hi:S.length=i):∀ j,i<=j->grS l s0 j=(S,N)
 | 0,hj=>by
  obtain rfl:i=0:=by omega
  exact h
 | j+1,hj=>by
  by_cases e:i=j+1
  ·rw [<-e]; exact h
  ·have ih:=grS_e h hi j (by omega)
   rw [grS,ih]
   simp only
   rw [List.getElem?_eq_none (by omega)]
structure RoI (l:List DT) (s0:List Int) (S N:List (List Int)) (st row:List Int):Prop where
 g:GrI l s0 S N
 cur:S[N.length]? = some st
 le:row.length<=l.length
 row:RowK l S st row
theorem RoI.start {l:List DT} {s0:List Int} {S N:List (List Int)} {st:List Int} (h:GrI l s0 S N) (hst:S[N.length]? = some st):RoI l s0 S N st []:=⟨h,hst,Nat.zero_le _,fun k hk=>by simp at hk⟩
theorem RoI.f {l:List DT} {s0:List Int} {S N:List (List Int)} {st row:List Int} (h:RoI l s0 S N st row) (hl:row.length < l.length) (hf:¬ frP l st row.length):RoI l s0 S N st (row++[-1]) :=
 ⟨h.g,h.cur,by simp; omega,h.row.snoc ⟨fun h'=>absurd h' hf,fun _=>rfl⟩⟩
theorem RoI.i {l:List DT} {s0:List Int} {S N:List (List Int)} {st row:List Int} (h:RoI l s0 S N st row) (hl:row.length < l.length) (hf:frP l st row.length) {i:Nat} (hi:S[i]? = some (adv st row.length)):RoI l s0 S N st (row++[(i:Int)]) :=
 ⟨h.g,h.cur,by simp; omega,h.row.snoc ⟨fun _=>⟨by omega,by rw [Int.toNat_natCast]; exact hi⟩,fun h'=>absurd hf h'⟩⟩
theorem RoI.n {l:List DT} {s0:List Int} {S N:List (List Int)} {st row:List Int} (h:RoI l s0 S N st row) (hl:row.length < l.length) (hf:frP l st row.length) (hn:adv st row.length ∉ S):RoI l s0 (S++[adv st row.length]) N st (row++[(S.length:Int)]):=by
 refine ⟨h.g.push h.cur hl hf hn,?_,by simp; omega,h.row.more.snoc ⟨fun _=>⟨by omega,?_⟩,fun h'=>absurd hf h'⟩⟩
 ·rw [List.getElem?_append_left (List.getElem?_eq_some_iff.1 h.cur).1]; exact h.cur
 ·rw [Int.toNat_natCast,List.getElem?_append_right (Nat.le_refl _)]; simp
theorem RoI.fin {l:List DT} {s0:List Int} {S N:List (List Int)} {st row:List Int} (h:RoI l s0 S N st row) (hl:row.length=l.length):GrI l s0 S (N++[row]):=h.g.next h.cur hl h.row
noncomputable def finS (l:List DT) (S:List (List Int)):List Bool:=S.map fun st=>bdec (canP l st)
noncomputable def acS (l:List DT) (st:List Int) (k:Nat):Bool:=bdec (endP l st\/∃ j,j < k/\frP l st j/\canP l (adv st j))
theorem acS_0 {l:List DT} {st:List Int}:acS l st 0=bdec (endP l st):=bdec_i ⟨fun h=>h.elim id fun ⟨j,hj,_⟩=>absurd hj (Nat.not_lt_zero _),.inl⟩
theorem acS_f {l:List DT} {st:List Int} {k:Nat} (hf:¬ frP l st k):acS l st (k+1)=acS l st k:=bdec_i ⟨fun h=>h.imp id fun ⟨j,hj,h1,h2⟩=>⟨j,by
  by_cases e:j=k
  ·subst e; exact absurd h1 hf
  ·omega,h1,h2⟩,fun h=>h.imp id fun ⟨j,hj,h⟩=>⟨j,by omega,h⟩⟩
theorem acS_t {l:List DT} {st:List Int} {k:Nat} (hf:frP l st k):acS l st (k+1)=(acS l st k || bdec (canP l (adv st k))):=by
 by_cases h1:endP l st\/∃ j,j < k/\frP l st j/\canP l (adv st j)
 ·rw [show acS l st k=true from bdec_t h1,show acS l st (k+1)=true from bdec_t (h1.imp id fun ⟨j,hj,h⟩=>⟨j,by omega,h⟩)]; rfl
 ·rw [show acS l st k=false from bdec_f h1,Bool.false_or]
  refine bdec_i ⟨fun h=>?_,fun h=>.inr ⟨k,by omega,hf,h⟩⟩
  rcases h with h|⟨j,hj,h2,h3⟩
  ·exact absurd (.inl h) h1
  ·by_cases e:j=k
   ·subst e; exact h3
   ·exact absurd (.inr ⟨j,by omega,h2,h3⟩) h1
theorem acS_end {l:List DT} {st:List Int}:acS l st l.length=bdec (canP l st):=bdec_i ⟨fun h=>h.elim canP_end fun ⟨j,hj,h1,h2⟩=>canP_step hj h1 h2,canP_inv⟩
set_option maxHeartbeats 4000000 in
theorem l19Ints_fn (a b:List Int):Fn Tryz.prog 126 [⟨tInts,a⟩,⟨tInts,b⟩] false [⟨.bool,decide (a=b)⟩]:=by
 by_cases h0:(a.length:Int)=b.length
 ·have d0:=decide_eq_true h0
  refine fe Tryz.func126 Tryz.ntmps126 Tryz.results126 fun hwf=>?_
  have hla:a.length<=9223372036854775807:=(hwf ⟨tInts,a⟩ (by simp)).1
  try simp (maxSteps:=9^9) only[go_sem,d0]
  repeat refine AI ?_
  refine LoopG.intro _ _ _ (fun i:Nat=>⟨[(1,.sl .int b),(12,.sl .int a),(13,.sc (.int .i64 a.length)),(14,.sc (.int .i64 i))],[]⟩) (fun i=>i<=a.length/\∀ j,j < i->ni a j=ni b j) (fun i=>a.length - i) 0 ?_ ⟨Nat.zero_le _,fun j h=>absurd h (Nat.not_lt_zero _)⟩ ?_
  ·exact WK
  ·rintro i ⟨hi,hall⟩
   try simp (maxSteps:=9^9) only[go_sem]
   refine CondW_dec (fun hA=>?_) (fun hA=>?_)
   ·have hlt:i < a.length:=by omega
    by_cases hv:ni a i=ni b i
    ·have d1:=decide_eq_true hv
     try simp (maxSteps:=9^9) only[go_sem]
     repeat refine AI ?_
     try simp (maxSteps:=9^9) only[go_sem,d1]
     repeat refine AI ?_
     refine LoopK.mk (i+1) ?_ ⟨by omega,fun j hj=>?_⟩ (by omega)
     ·exact WK
     ·by_cases h:j < i
      ·exact hall j h
      ·rw [show j=i by omega]; exact hv
    ·have d1:=decide_eq_false hv
     rw [decide_eq_false fun e:a=b=>hv (by rw [e])]
     try simp (maxSteps:=9^9) only[go_sem]
     repeat refine AI ?_
     try simp (maxSteps:=9^9) only[go_sem,d1]
     all_goals repeat refine AI ?_
     all_goals first|kernel_rfl|omega|rfl
   ·rw [decide_eq_true (show a=b from List.ext_getElem (by omega) fun i h1 h2=>by have:=hall i (by omega); rw [ni_lt h1,ni_lt h2] at this; exact this)]
    try simp (maxSteps:=9^9) only[go_sem]
    all_goals repeat refine AI ?_
    all_goals first|kernel_rfl|omega|rfl
 ·have d0:=decide_eq_false h0
  rw [decide_eq_false fun e:a=b=>h0 (by rw [e])]
  refine fe Tryz.func126 Tryz.ntmps126 Tryz.results126 fun hwf=>?_
  try simp (maxSteps:=9^9) only[go_sem,d0]
  all_goals repeat refine AI ?_
  all_goals first|kernel_rfl|omega|rfl
set_option maxHeartbeats 4000000 in
theorem l28Find_in (S:List (List Int)) (t:List Int) (i:Nat) (h:S[i]? = some t) (hm:∀ j,j < i->S[j]? ≠ some t):Fn Tryz.prog 87 [⟨.slice tInts,S⟩,⟨tInts,t⟩] false [⟨.int,(i:Int)⟩]:=by
 have hi:i < S.length:=(List.getElem?_eq_some_iff.1 h).1
 refine fe Tryz.func87 Tryz.ntmps87 Tryz.results87 fun hwf=>?_
 have hla:S.length<=9223372036854775807:=(hwf ⟨.slice tInts,S⟩ (by simp)).1
 try simp (maxSteps:=9^9) only[go_sem]
 repeat refine AI ?_
 refine LoopG.intro _ _ _ (fun j:Nat=>⟨[(1,.sl .int t),(7,.sl tInts S),(8,.sc (.int .i64 S.length)),(9,.sc (.int .i64 j))],[]⟩) (fun j=>j<=i) (fun j=>i - j) 0 ?_ (Nat.zero_le _) ?_
 ·exact WK
 ·rintro j hj
  try simp (maxSteps:=9^9) only[go_sem]
  refine CondW_dec (fun hA=>?_) (fun hA=>absurd (by omega) hA)
  have c1:=l19Ints_fn (nth (t:=tInts) S j) t
  by_cases e:j=i
  ·subst e
   rw [decide_eq_true (show nth (t:=tInts) S j=t by rw [nth_lt hi]; exact (List.getElem?_eq_some_iff.1 h).2)] at c1
   try simp (maxSteps:=9^9) only[go_sem]
   repeat refine AI ?_
   repeat refine AI ?_
   refine cw c1 ?_
   try simp (maxSteps:=9^9) only[go_sem]
   all_goals repeat refine AI ?_
   all_goals first|kernel_rfl|omega|rfl
  ·have hj':j < S.length:=by omega
   rw [decide_eq_false (fun e':nth (t:=tInts) S j=t=>hm j (by omega) (by rw [nth_lt hj'] at e'; rw [List.getElem?_eq_getElem hj']; exact congrArg some e'))] at c1
   try simp (maxSteps:=9^9) only[go_sem]
   repeat refine AI ?_
   repeat refine AI ?_
   refine cw c1 ?_
   try simp (maxSteps:=9^9) only[go_sem]
   repeat refine AI ?_
   refine LoopK.mk (j+1) ?_ (by omega) (by omega)
   exact WK
set_option maxHeartbeats 4000000 in
theorem l28Find_no (S:List (List Int)) (t:List Int) (h:t ∉ S):Fn Tryz.prog 87 [⟨.slice tInts,S⟩,⟨tInts,t⟩] false [⟨.int,-1⟩]:=by
 refine fe Tryz.func87 Tryz.ntmps87 Tryz.results87 fun hwf=>?_
 have hla:S.length<=9223372036854775807:=(hwf ⟨.slice tInts,S⟩ (by simp)).1
 try simp (maxSteps:=9^9) only[go_sem]
 repeat refine AI ?_
 refine LoopG.intro _ _ _ (fun j:Nat=>⟨[(1,.sl .int t),(7,.sl tInts S),(8,.sc (.int .i64 S.length)),(9,.sc (.int .i64 j))],[]⟩) (fun j=>j<=S.length) (fun j=>S.length - j) 0 ?_ (Nat.zero_le _) ?_
 ·exact WK
 ·rintro j hj
  try simp (maxSteps:=9^9) only[go_sem]
  refine CondW_dec (fun hA=>?_) (fun hA=>?_)
  ·have c1:=l19Ints_fn (nth (t:=tInts) S j) t
   have hj':j < S.length:=by omega
   rw [decide_eq_false (fun e':nth (t:=tInts) S j=t=>h (by rw [nth_lt hj'] at e'; exact e' ▸ List.getElem_mem hj'))] at c1
   try simp (maxSteps:=9^9) only[go_sem]
   repeat refine AI ?_
   repeat refine AI ?_
   refine cw c1 ?_
   try simp (maxSteps:=9^9) only[go_sem]
   repeat refine AI ?_
   refine LoopK.mk (j+1) ?_ (by omega) (by omega)
   exact WK
  ·try simp (maxSteps:=9^9) only[go_sem]
   all_goals repeat refine AI ?_
   all_goals first|kernel_rfl|omega|rfl
attribute [go_sem] Tryz.underlying94 Tryz.underlying97
@[go_sem] theorem bts_intS:bts Tryz.prog 26=some 24:=by kernel_rfl
theorem nthI {S:List (List Int)} {i:Nat} {st:List Int} (h:S[i]? = some st):nth (t:=tInts) S i=st:=by
 obtain ⟨h1,h2⟩:=List.getElem?_eq_some_iff.1 h
 rw [nth_lt h1]; exact h2
theorem fin_set {l:List DT} {S:List (List Int)} {F:List Bool} {m:Nat} {st:List Int} (hF:F.length=S.length) (hst:S[m]? = some st) (hall:∀ (j:Nat) (st:List Int),m+1<=j->S[j]? = some st->F[j]? = some (bdec (canP l st))):∀ (j:Nat) (st':List Int),m<=j->S[j]? = some st'->(F.set m (bdec (canP l st)))[j]? = some (bdec (canP l st')):=by
 intro j st' hj hst'
 have hm:m < F.length:=by rw [hF]; exact (List.getElem?_eq_some_iff.1 hst).1
 by_cases e:m=j
 ·subst e
  rw [hst] at hst'
  injection hst' with hst'
  subst hst'
  rw [List.getElem?_set_self hm]
 ·rw [List.getElem?_set_ne e]
  exact hall j st' (by omega) hst'
theorem fin_all {l:List DT} {S:List (List Int)} {F:List Bool} (hF:F.length=S.length) (hall:∀ (j:Nat) (st:List Int),0<=j->S[j]? = some st->F[j]? = some (bdec (canP l st))):finS l S=F:=by
 unfold finS
 refine List.ext_getElem? fun j=>?_
 rw [List.getElem?_map]
 by_cases hj:j < S.length
 ·have hst:S[j]? = some S[j]:=List.getElem?_eq_getElem hj
  rw [hst,hall j _ (Nat.zero_le _) hst]; rfl
 ·rw [List.getElem?_eq_none (by omega),List.getElem?_eq_none (by omega)]; rfl
set_option maxHeartbeats 4000000 in
theorem l28Build_fn (l:List DT) (h:1<=l.length/\l.length<=3) (har:arP l) (s0:List Int) (hs:stP l s0):Fn Tryz.prog 52 [⟨.slice tTour,l⟩,⟨tInts,s0⟩] false [⟨.ext .ref tGraph,some ((grS l s0 730).1,((grS l s0 730).2,finS l (grS l s0 730).1))⟩]:=by
 have hlen:s0.length<=3:=by rw [hs.1]; exact h.2
 refine fnP_enter tabOK mixes Tryz.func52 rfl rfl _ Tryz.ntmps52 _ Tryz.results52 (by simp) fun hwf=>?_
 try simp (maxSteps:=9^9) only[go_sem]
 repeat refine AI ?_
 refine LoopG.intro _ _ _ (fun y:Nat × List (List Int) × List (List Int)=>match y.1 with
  | 0=>⟨[(0,.sl tTour l),(5,.ptr 2 0),(6,.sc (.int .i64 0))],[(2,.box [.row 1 0,.sc (.slice none 0 0),.sc (.slice none 0 0)]),(1,.row 26 tInts 0 true y.2.1)]⟩
  | i+1=>⟨[(0,.sl tTour l),(5,.ptr 2 0),(6,.sc (.int .i64 ((i+1:Nat):Int)))],[(2,.box [.row 1 0,.row 3 0,.sc (.slice none 0 0)]),(1,.row 26 tInts 0 true y.2.1),(3,.row 26 tInts 0 true y.2.2)]⟩) (fun y=>grS l s0 y.1=y.2/\GrI l s0 y.2.1 y.2.2/\y.2.2.length=y.1) (fun y=>730 - y.1) (0,[s0],[]) ?_ ⟨rfl,.one hs,rfl⟩ ?_
 ·exact WK
 ·rintro ⟨i,S,N⟩ ⟨hy,hI,hN⟩
  dsimp only at hy hI hN
  have hS:=vals_le har h.2 hI.g.nd fun t ht=>(hI.g.va t ht).1
  have hNS:=hI.len
  cases i with
  | zero =>
   obtain rfl:N=[]:=List.eq_nil_of_length_eq_zero hN
   dsimp only
   try simp (maxSteps:=9^9) only[go_sem]
   refine CondW_dec (fun hA=>?_) (fun hA=>?_)
   ·have hiS:0 < S.length:=by omega
    obtain ⟨st,hst⟩:∃ st,S[0]? = some st:=⟨_,List.getElem?_eq_getElem hiS⟩
    have hstv:=(hI.g.va st (List.mem_of_getElem? hst)).1
    have hsl:=hstv.1
    try simp (maxSteps:=9^9) only[go_sem]
    refine LoopG.intro _ _ _ (fun y:List (List Int) × List Int=>⟨[(0,.sl tTour l),(5,.ptr 2 0),(6,.sc (.int .i64 0)),(7,.row 3 0),(31,.sc (.int .i64 l.length)),(32,.sc (.int .i64 y.2.length))],[(2,.box [.row 1 0,.sc (.slice none 0 0),.sc (.slice none 0 0)]),(1,.row 26 tInts 0 true y.1),(3,.row 3 .int 0 true y.2)]⟩) (fun y=>rowS l st S y.2.length=y/\RoI l s0 y.1 [] st y.2) (fun y=>l.length - y.2.length) (S,[]) ?_ ⟨rfl,.start hI (by rw [hN]; exact hst)⟩ ?_
    ·exact WK
    ·rintro ⟨T,row⟩ ⟨hr,hR⟩
     dsimp only at hr hR
     have hT:=vals_le har h.2 hR.g.g.nd fun t ht=>(hR.g.g.va t ht).1
     try simp (maxSteps:=9^9) only[go_sem]
     refine CondW_dec (fun hB=>?_) (fun hB=>?_)
     ·have hlt:row.length < l.length:=by omega
      have c1:=l28Free_fn l st row.length har hstv hlt
      have hcur:=hR.cur
      have hTi:0 < T.length:=by rw [<-hN]; exact (List.getElem?_eq_some_iff.1 hcur).1
      have hnt:nth (t:=tInts) T (0)=st:=nthI (by rw [<-hN]; exact hcur)
      by_cases hf:frP l st row.length
      ·rw [bdec_t hf] at c1
       have hni:=ni_8 har hstv row.length
       have hb1:(row.length+1) * 8<=140737488355328:=by omega
       have hb2:row.length<=9223372036854775806:=by omega
       have hks:row.length < st.length:=by omega
       try simp (maxSteps:=9^9) only[go_sem,hnt]
       repeat refine AI ?_
       refine cw c1 ?_
       try simp (maxSteps:=9^9) only[go_sem,hnt]
       repeat refine AI ?_
       by_cases hin:adv st row.length ∈ T
       ·obtain ⟨m,hm1,hm2⟩:=first_ex hin
        have c2:=l28Find_in T (adv st row.length) m hm1 hm2
        have hr':=rowS_i hr hf hm1 hm2
        have hR':=hR.i hlt hf hm1
        have hml:=(List.getElem?_eq_some_iff.1 hm1).1
        refine cw c2 ?_
        unfold adv
        try simp (maxSteps:=9^9) only[go_sem]
        repeat refine AI ?_
        refine CondW_dec (fun hC=>by omega) (fun hC=>?_)
        try simp (maxSteps:=9^9) only[go_sem]
        refine ⟨hb1,hb2,?_⟩
        repeat refine AI ?_
        refine LoopK.mk (T,row++[(m:Int)]) ?_ ⟨by dsimp only; rw [List.length_append]; exact hr',hR'⟩ (by dsimp only; rw [List.length_append,List.length_singleton]; omega)
        exact WK
       ·have c2:=l28Find_no T (adv st row.length) hin
        have hr':=rowS_n hr hf hin
        have hR':=hR.n hlt hf hin
        refine cw c2 ?_
        unfold adv
        try simp (maxSteps:=9^9) only[go_sem]
        repeat refine AI ?_
        refine LoopK.mk (T++[adv st row.length],row++[(T.length:Int)]) ?_ ⟨by dsimp only; rw [List.length_append]; exact hr',hR'⟩ (by dsimp only; rw [List.length_append,List.length_singleton]; omega)
        unfold adv
        exact WK
      ·rw [bdec_f hf] at c1
       have hr':=rowS_f hr hf
       have hR':=hR.f hlt hf
       have hb1:(row.length+1) * 8<=140737488355328:=by omega
       have hb2:row.length<=9223372036854775806:=by omega
       try simp (maxSteps:=9^9) only[go_sem,hnt]
       repeat refine AI ?_
       refine cw c1 ?_
       try simp (maxSteps:=9^9) only[go_sem,hnt]
       refine ⟨hb1,hb2,?_⟩
       repeat refine AI ?_
       refine LoopK.mk (T,row++[(-1:Int)]) ?_ ⟨by dsimp only; rw [List.length_append]; exact hr',hR'⟩ (by dsimp only; rw [List.length_append,List.length_singleton]; omega)
       exact WK
     ·have hrl:row.length=l.length:=by have:=hR.le; omega
      have hfin:=hR.fin hrl
      have hgs:grS l s0 (0+1)=(T,[]++[row]):=grS_s hy (by exact hst) (by rw [hrl] at hr; exact hr)
      have hb3:(([]:List (List Int)).length+1) * 24<=140737488355328:=by omega
      have hb4:([]:List (List Int)).length<=9223372036854775806:=by omega
      try simp (maxSteps:=9^9) only[go_sem]
      repeat refine AI ?_
      refine LoopK.mk (0+1,T,[]++[row]) ?_ ⟨hgs,hfin,by dsimp only; rw [List.length_append,hN]; rfl⟩ (by dsimp only; omega)
      refine Wk.mk [(3,5)] ?_
      try simp (maxSteps:=9^9) only[go_sem]
      try (and_intros<;>first|rfl|omega|exact ⟨_,rfl⟩)
   ·exact absurd hI.g.ne (by rw [List.getElem?_eq_none (by omega)]; simp)
  | succ i =>
   dsimp only
   try simp (maxSteps:=9^9) only[go_sem]
   refine CondW_dec (fun hA=>?_) (fun hA=>?_)
   ·have hiS:i+1 < S.length:=by omega
    obtain ⟨st,hst⟩:∃ st,S[i+1]? = some st:=⟨_,List.getElem?_eq_getElem hiS⟩
    have hstv:=(hI.g.va st (List.mem_of_getElem? hst)).1
    have hsl:=hstv.1
    try simp (maxSteps:=9^9) only[go_sem]
    refine LoopG.intro _ _ _ (fun y:List (List Int) × List Int=>⟨[(0,.sl tTour l),(5,.ptr 2 0),(6,.sc (.int .i64 ((i+1:Nat):Int))),(7,.row 4 0),(31,.sc (.int .i64 l.length)),(32,.sc (.int .i64 y.2.length))],[(2,.box [.row 1 0,.row 3 0,.sc (.slice none 0 0)]),(1,.row 26 tInts 0 true y.1),(3,.row 26 tInts 0 true N),(4,.row 3 .int 0 true y.2)]⟩) (fun y=>rowS l st S y.2.length=y/\RoI l s0 y.1 N st y.2) (fun y=>l.length - y.2.length) (S,[]) ?_ ⟨rfl,.start hI (by rw [hN]; exact hst)⟩ ?_
    ·exact WK
    ·rintro ⟨T,row⟩ ⟨hr,hR⟩
     dsimp only at hr hR
     have hT:=vals_le har h.2 hR.g.g.nd fun t ht=>(hR.g.g.va t ht).1
     try simp (maxSteps:=9^9) only[go_sem]
     refine CondW_dec (fun hB=>?_) (fun hB=>?_)
     ·have hlt:row.length < l.length:=by omega
      have c1:=l28Free_fn l st row.length har hstv hlt
      have hcur:=hR.cur
      have hTi:i+1 < T.length:=by rw [<-hN]; exact (List.getElem?_eq_some_iff.1 hcur).1
      have hnt:nth (t:=tInts) T (i+1)=st:=nthI (by rw [<-hN]; exact hcur)
      by_cases hf:frP l st row.length
      ·rw [bdec_t hf] at c1
       have hni:=ni_8 har hstv row.length
       have hb1:(row.length+1) * 8<=140737488355328:=by omega
       have hb2:row.length<=9223372036854775806:=by omega
       have hks:row.length < st.length:=by omega
       try simp (maxSteps:=9^9) only[go_sem,hnt]
       repeat refine AI ?_
       refine cw c1 ?_
       try simp (maxSteps:=9^9) only[go_sem,hnt]
       repeat refine AI ?_
       by_cases hin:adv st row.length ∈ T
       ·obtain ⟨m,hm1,hm2⟩:=first_ex hin
        have c2:=l28Find_in T (adv st row.length) m hm1 hm2
        have hr':=rowS_i hr hf hm1 hm2
        have hR':=hR.i hlt hf hm1
        have hml:=(List.getElem?_eq_some_iff.1 hm1).1
        refine cw c2 ?_
        unfold adv
        try simp (maxSteps:=9^9) only[go_sem]
        repeat refine AI ?_
        refine CondW_dec (fun hC=>by omega) (fun hC=>?_)
        try simp (maxSteps:=9^9) only[go_sem]
        refine ⟨hb1,hb2,?_⟩
        repeat refine AI ?_
        refine LoopK.mk (T,row++[(m:Int)]) ?_ ⟨by dsimp only; rw [List.length_append]; exact hr',hR'⟩ (by dsimp only; rw [List.length_append,List.length_singleton]; omega)
        exact WK
       ·have c2:=l28Find_no T (adv st row.length) hin
        have hr':=rowS_n hr hf hin
        have hR':=hR.n hlt hf hin
        refine cw c2 ?_
        unfold adv
        try simp (maxSteps:=9^9) only[go_sem]
        repeat refine AI ?_
        refine LoopK.mk (T++[adv st row.length],row++[(T.length:Int)]) ?_ ⟨by dsimp only; rw [List.length_append]; exact hr',hR'⟩ (by dsimp only; rw [List.length_append,List.length_singleton]; omega)
        unfold adv
        exact WK
      ·rw [bdec_f hf] at c1
       have hr':=rowS_f hr hf
       have hR':=hR.f hlt hf
       have hb1:(row.length+1) * 8<=140737488355328:=by omega
       have hb2:row.length<=9223372036854775806:=by omega
       try simp (maxSteps:=9^9) only[go_sem,hnt]
       repeat refine AI ?_
       refine cw c1 ?_
       try simp (maxSteps:=9^9) only[go_sem,hnt]
       refine ⟨hb1,hb2,?_⟩
       repeat refine AI ?_
       refine LoopK.mk (T,row++[(-1:Int)]) ?_ ⟨by dsimp only; rw [List.length_append]; exact hr',hR'⟩ (by dsimp only; rw [List.length_append,List.length_singleton]; omega)
       exact WK
     ·have hrl:row.length=l.length:=by have:=hR.le; omega
      have hfin:=hR.fin hrl
      have hgs:grS l s0 (i+1+1)=(T,N++[row]):=grS_s hy (by exact hst) (by rw [hrl] at hr; exact hr)
      have hb3:(N.length+1) * 24<=140737488355328:=by omega
      have hb4:N.length<=9223372036854775806:=by omega
      try simp (maxSteps:=9^9) only[go_sem]
      repeat refine AI ?_
      refine LoopK.mk (i+1+1,T,N++[row]) ?_ ⟨hgs,hfin,by dsimp only; rw [List.length_append,hN]; rfl⟩ (by dsimp only; omega)
      exact WK
   ·have hSi:S.length=i+1:=by omega
    have hall:=grS_e hy hSi 730 (by omega)
    rw [hall]
    dsimp only
    try simp (maxSteps:=9^9) only[go_sem]
    repeat refine AI ?_
    refine LoopG.intro _ _ _ (fun y:Nat × List Bool=>⟨[(0,.sl tTour l),(5,.ptr 2 0),(11,.sc (.int .i64 ((y.1:Int) - 1)))],[(2,.box [.row 1 0,.row 3 0,.row 4 0]),(1,.row 26 tInts 0 true S),(3,.row 26 tInts 0 true N),(4,.row 4 .bool 0 true y.2)]⟩) (fun y=>y.1<=S.length/\y.2.length=S.length/\∀ (j:Nat) (st:List Int),y.1<=j->S[j]? = some st->y.2[j]? = some (bdec (canP l st))) (fun y=>y.1) (S.length,List.replicate S.length false) ?_ ⟨Nat.le_refl _,List.length_replicate,fun j st hj hst=>by rw [List.getElem?_eq_none hj] at hst; cases hst⟩ ?_
    ·exact WK
    ·rintro ⟨d,F⟩ ⟨hd,hF,hall⟩
     dsimp only at hd hF hall
     try simp (maxSteps:=9^9) only[go_sem]
     refine CondW_dec (fun hB=>?_) (fun hB=>?_)
     ·obtain ⟨m,rfl⟩:∃ m,d=m+1:=⟨d - 1,by omega⟩
      have em:((m+1:Nat):Int) - 1=(m:Int):=by omega
      have hmS:m < S.length:=by omega
      have hmN:m < N.length:=by omega
      have hmF:m < F.length:=by omega
      have hst:S[m]? = some S[m]:=List.getElem?_eq_getElem hmS
      generalize S[m]=st at hst
      have hnst:N[m]? = some N[m]:=List.getElem?_eq_getElem hmN
      generalize N[m]=row at hnst
      have hstv:=(hI.g.va st (List.mem_of_getElem? hst)).1
      have hS1:nth (t:=tInts) S m=st:=nthI hst
      have hN1:nth (t:=tInts) N m=row:=nthI hnst
      obtain ⟨hrl,hrow⟩:=hI.row m row st hnst hst
      have c1:=l28End_fn l st hstv
      try simp (maxSteps:=9^9) only[go_sem,em,hS1]
      repeat refine AI ?_
      refine cw c1 ?_
      try simp (maxSteps:=9^9) only[go_sem,em,hS1,hN1]
      repeat refine AI ?_
      refine LoopG.intro _ _ _ (fun k:Nat=>⟨[(0,.sl tTour l),(5,.ptr 2 0),(11,.sc (.int .i64 (m:Int))),(138,.sl .int row),(139,.sc (.int .i64 row.length)),(140,.sc (.int .i64 k))],[(2,.box [.row 1 0,.row 3 0,.row 4 0]),(1,.row 26 tInts 0 true S),(3,.row 26 tInts 0 true N),(4,.row 4 .bool 0 true (F.set m (acS l st k)))]⟩) (fun k=>k<=l.length) (fun k=>l.length - k) 0 ?_ (Nat.zero_le _) ?_
      ·rw [acS_0]
       exact WK
      ·rintro k hk
       try simp (maxSteps:=9^9) only[go_sem]
       refine CondW_dec (fun hC=>?_) (fun hC=>?_)
       ·have hkl:k < l.length:=by omega
        have hkr:k < row.length:=by omega
        have hrk:=hrow k hkr
        have hset:∀ a:Bool,nth (t:=.bool) (F.set m a) m=a:=fun a=>by
         rw [nth_lt (by rw [List.length_set]; exact hmF)]; simp
        have hss:∀ a b:Bool,(F.set m a).set m b=F.set m b:=fun a b=>List.set_set ..
        have hlf:∀ a:Bool,(F.set m a).length=F.length:=fun a=>List.length_set
        cases ha:acS l st k with
        | true =>
         have hn:acS l st (k+1)=true:=by
          by_cases hf:frP l st k
          ·rw [acS_t hf,ha]; rfl
          ·rw [acS_f hf,ha]
         try simp (maxSteps:=9^9) only[go_sem,hset,hlf]
         repeat refine AI ?_
         try simp (maxSteps:=9^9) only[go_sem,hset,hlf,hss]
         repeat refine AI ?_
         refine LoopK.mk (k+1) ?_ (by omega) (by omega)
         rw [hn]
         exact WK
        | false =>
         by_cases hf:frP l st k
         ·obtain ⟨h1,h2⟩:=hrk.1 hf
          have hlat:=hI.g
          have hlm:m < (ni row k).toNat:=hI.later hst hkl h2
          have hlS:=(List.getElem?_eq_some_iff.1 h2).1
          have hlF:(ni row k).toNat < F.length:=by omega
          have hfn:nth (t:=.bool) (F.set m false) (ni row k).toNat=bdec (canP l (adv st k)):=by
           have h3:=hall (ni row k).toNat (adv st k) (by omega) h2
           obtain ⟨h4,h5⟩:=List.getElem?_eq_some_iff.1 h3
           rw [nth_lt (by rw [List.length_set]; exact hlF),List.getElem_set_ne (by omega)]; exact h5
          have hn:acS l st (k+1)=bdec (canP l (adv st k)):=by rw [acS_t hf,ha]; rfl
          have d1:=decide_eq_true h1
          try simp (maxSteps:=9^9) only[go_sem,hset,hlf,d1]
          repeat refine AI ?_
          try simp (maxSteps:=9^9) only[go_sem,hset,hlf,hss,d1,hfn]
          repeat refine AI ?_
          refine LoopK.mk (k+1) ?_ (by omega) (by omega)
          rw [hn]
          exact WK
         ·have h1:=hrk.2 hf
          have hn:acS l st (k+1)=false:=by rw [acS_f hf,ha]
          try simp (maxSteps:=9^9) only[go_sem,hset,hlf,h1]
          repeat refine AI ?_
          try simp (maxSteps:=9^9) only[go_sem,hset,hlf,hss,h1]
          repeat refine AI ?_
          refine LoopK.mk (k+1) ?_ (by omega) (by omega)
          rw [hn]
          exact WK
       ·have hkl:k=l.length:=by omega
        subst hkl
        try simp (maxSteps:=9^9) only[go_sem]
        repeat refine AI ?_
        refine LoopK.mk (m,F.set m (bdec (canP l st))) ?_ ⟨by dsimp only; omega,by dsimp only; rw [List.length_set]; exact hF,fun j st' hj hst'=>?_⟩ (by dsimp only; omega)
        ·rw [<-acS_end]
         exact WK
        ·exact fin_set hF hst hall j st' hj hst'
     ·obtain rfl:d=0:=by omega
      have hfin:finS l S=F:=fin_all hF hall
      rw [hfin]
      try simp (maxSteps:=9^9) only[go_sem]
      all_goals repeat refine AI ?_
      all_goals first|kernel_rfl|omega|rfl
theorem rowS_RoI {l:List DT} {s0 st:List Int} {S N:List (List Int)} (h:GrI l s0 S N) (hst:S[N.length]? = some st):∀ k,k<=l.length->(rowS l st S k).2.length=k/\RoI l s0 (rowS l st S k).1 N st (rowS l st S k).2:=by
 intro k
 induction k with
 | zero=>intro _; exact ⟨rfl,.start h hst⟩
 | succ k ih =>
  intro hk
  obtain ⟨h1,h2⟩:=ih (by omega)
  obtain ⟨T,row,hr⟩:∃ T row,rowS l st S k=(T,row):=⟨_,_,rfl⟩
  rw [hr] at h1 h2
  dsimp only at h1 h2
  subst h1
  by_cases hf:frP l st row.length
  ·by_cases hin:adv st row.length ∈ T
   ·obtain ⟨m,hm1,hm2⟩:=first_ex hin
    rw [rowS_i hr hf hm1 hm2]
    exact ⟨by simp,h2.i hk hf hm1⟩
   ·rw [rowS_n hr hf hin]
    exact ⟨by simp,h2.n hk hf hin⟩
  ·rw [rowS_f hr hf]
   exact ⟨by simp,h2.f hk hf⟩
theorem grS_all {l:List DT} {s0:List Int} (hs:stP l s0):∀ i,GrI l s0 (grS l s0 i).1 (grS l s0 i).2/\((grS l s0 i).2.length=i\/(grS l s0 i).2.length=(grS l s0 i).1.length)
 | 0=>⟨.one hs,.inl rfl⟩
 | i+1=>by
  obtain ⟨h1,h2⟩:=grS_all hs i
  obtain ⟨S,N,hy⟩:∃ S N,grS l s0 i=(S,N):=⟨_,_,rfl⟩
  rw [hy] at h1 h2
  dsimp only at h1 h2
  by_cases he:N.length=S.length
  ·rcases h2 with h2|h2
   ·have:=grS_e hy (by omega) (i+1) (by omega)
    rw [this]; exact ⟨h1,.inr he⟩
   ·cases hq:S[i]? with
    | none =>
     rw [grS,hy]; simp only; rw [hq]; exact ⟨h1,.inr he⟩
    | some st =>
     by_cases hi:N.length=i
     ·have:=(List.getElem?_eq_some_iff.1 hq).1; omega
     ·exfalso
      have:∀ j,(grS l s0 j).2.length<=j:=fun j=>by
       induction j with
       | zero=>exact Nat.le_refl _
       | succ j ih =>
        rw [grS]
        split
        ·simp; exact ih
        ·omega
      have hle:=this i
      rw [hy] at hle
      dsimp only at hle
      have:=(List.getElem?_eq_some_iff.1 hq).1
      omega
  ·have hi:N.length=i:=h2.resolve_right he
   have hlt:N.length < S.length:=by have:=h1.len; omega
   have hst:S[N.length]? = some S[N.length]:=List.getElem?_eq_getElem hlt
   generalize S[N.length]=st at hst
   obtain ⟨T,row,hr⟩:∃ T row,rowS l st S l.length=(T,row):=⟨_,_,rfl⟩
   obtain ⟨r1,r2⟩:=rowS_RoI h1 hst l.length (Nat.le_refl _)
   rw [hr] at r1 r2
   dsimp only at r1 r2
   rw [grS_s hy (by rw [<-hi]; exact hst) hr]
   exact ⟨r2.fin r1,.inl (by simp; exact hi)⟩
noncomputable abbrev gS (l:List DT) (s0:List Int):List (List Int):=(grS l s0 730).1
noncomputable abbrev gN (l:List DT) (s0:List Int):List (List Int):=(grS l s0 730).2
theorem gr_fin {l:List DT} (har:arP l) (h3:l.length<=3) {s0:List Int} (hs:stP l s0):GrI l s0 (gS l s0) (gN l s0)/\(gN l s0).length=(gS l s0).length:=by
 obtain ⟨h1,h2⟩:=grS_all hs 730
 have hS:=vals_le har h3 h1.g.nd fun t ht=>(h1.g.va t ht).1
 refine ⟨h1,h2.elim (fun h=>?_) id⟩
 have:=h1.len
 omega
theorem nthB {l:List DT} {S:List (List Int)} {j:Nat} {st:List Int} (h:S[j]? = some st):nth (t:=.bool) (finS l S) j=bdec (canP l st):=by
 obtain ⟨h1,h2⟩:=List.getElem?_eq_some_iff.1 h
 have hl:j < (finS l S).length:=by unfold finS; rw [List.length_map]; exact h1
 rw [nth_lt hl]
 have e:(finS l S)[j]=bdec (canP l S[j]):=List.getElem_map ..
 rw [e,h2]
theorem finS_len {l:List DT} {S:List (List Int)}:(finS l S).length=S.length:=by unfold finS; rw [List.length_map]
set_option maxHeartbeats 4000000 in
theorem CoordinateS_fn (l:List DT):FnT Tryz.prog 25 [⟨.slice tTour,l⟩] [⟨tInts,crdL l⟩,⟨.bool,bdec (crdP l)⟩]:=by
 have c0:=AreToursS_fn l
 cases ha:arB l<;>rw [ha] at c0
 ·have e:bdec (crdP l)=false:=bdec_f fun h=>by have:=h.1; rw [ha] at this; cases this
  rw [show crdL l=[] by unfold crdL; rw [e]; rfl,e]
  refine fnT_enter tabOK mixes Tryz.func25 rfl rfl _ Tryz.ntmps25 _ Tryz.results25 (by simp) fun hwf=>?_
  try simp (maxSteps:=9^9) only[go_sem]
  repeat refine AI ?_
  refine cw c0 ?_
  try simp (maxSteps:=9^9) only[go_sem]
  all_goals repeat refine AI ?_
  all_goals first|kernel_rfl|omega|rfl
 ·have har:=arB_p ha
  have hs0:=stP_zero l
  have c2:=l28Build_fn l har.1 har.2 (st0 l) hs0
  have hgr:GrI l (st0 l) (grS l (st0 l) 730).1 (grS l (st0 l) 730).2/\(grS l (st0 l) 730).2.length=(grS l (st0 l) 730).1.length:=gr_fin har.2 har.1.2 hs0
  generalize (grS l (st0 l) 730).1=S at hgr c2
  generalize (grS l (st0 l) 730).2=N at hgr c2
  obtain ⟨hI,hN⟩:=hgr
  have hl:0 < S.length:=(List.getElem?_eq_some_iff.1 hI.g.ne).1
  have hlF:(finS l S).length=S.length:=finS_len
  have hf:nth (t:=.bool) (finS l S) 0=bdec (canP l (st0 l)):=nthB hI.g.ne
  have hS:=vals_le har.2 har.1.2 hI.g.nd fun t ht=>(hI.g.va t ht).1
  by_cases hc:canP l (st0 l)
  rotate_left
  ·have e:bdec (crdP l)=false:=bdec_f fun h=>hc h.2
   rw [show crdL l=[] by unfold crdL; rw [e]; rfl,e]
   rw [bdec_f hc] at hf
   refine fnT_enter tabOK mixes Tryz.func25 rfl rfl _ Tryz.ntmps25 _ Tryz.results25 (by simp) fun hwf=>?_
   try simp (maxSteps:=9^9) only[go_sem]
   repeat refine AI ?_
   refine cw c0 ?_
   try simp (maxSteps:=9^9) only[go_sem]
   repeat refine AI ?_
   repeat refine AI ?_
   refine cw c2 ?_
   try simp (maxSteps:=9^9) only[go_sem]
   repeat refine AI ?_
   try simp (maxSteps:=9^9) only[go_sem,hf,hlF]
   repeat refine AI ?_
   try simp (maxSteps:=9^9) only[go_sem,hf,hlF]
   all_goals repeat refine AI ?_
   all_goals first|kernel_rfl|omega|rfl
  ·have e:bdec (crdP l)=true:=bdec_t ⟨ha,hc⟩
   rw [show crdL l=coo l (remN l (st0 l)) (st0 l) by unfold crdL; rw [e]; rfl,e]
   rw [bdec_t hc] at hf
   refine fnT_enter tabOK mixes Tryz.func25 rfl rfl _ Tryz.ntmps25 _ Tryz.results25 (by simp) fun hwf=>?_
   try simp (maxSteps:=9^9) only[go_sem]
   repeat refine AI ?_
   refine cw c0 ?_
   try simp (maxSteps:=9^9) only[go_sem]
   repeat refine AI ?_
   repeat refine AI ?_
   refine cw c2 ?_
   try simp (maxSteps:=9^9) only[go_sem]
   repeat refine AI ?_
   try simp (maxSteps:=9^9) only[go_sem,hf,hlF]
   repeat refine AI ?_
   try simp (maxSteps:=9^9) only[go_sem,hf,hlF]
   repeat refine AI ?_
   refine LoopG.intro _ _ _ (fun y:Nat × List Int × List Int=>⟨[(0,.sl tTour l),(4,.ref tGraph (S,(N,finS l S)) 0),(5,.row 1 0),(6,.sc (.int .i64 y.1))],[(1,.row 3 .int 0 true y.2.2)]⟩) (fun y=>S[y.1]? = some y.2.1/\CoI l (st0 l) y.2.1 y.2.2) (fun y=>remN l y.2.1) (0,st0 l,[]) ?_ ⟨hI.g.ne,CoI.start hs0 hc⟩ ?_
   ·exact WK
   ·rintro ⟨a,st,out⟩ ⟨hst,hco⟩
    dsimp only at hst hco
    have hstv:=hco.1
    have hlen:=hco.2.2.1
    have hsu:=sum_24 har.2 har.1.2 hstv
    have hsu0:0<=(st0 l).sum/\(st0 l).sum<=24:=sum_24 har.2 har.1.2 hs0
    have hb1:(out.length+1) * 8<=140737488355328:=by omega
    have hb2:out.length<=9223372036854775806:=by omega
    have haS:=(List.getElem?_eq_some_iff.1 hst).1
    have haN:a < N.length:=by omega
    have hnst:N[a]? = some N[a]:=List.getElem?_eq_getElem haN
    generalize N[a]=row at hnst
    have hS1:nth (t:=tInts) S a=st:=nthI hst
    have hN1:nth (t:=tInts) N a=row:=nthI hnst
    obtain ⟨hrl,hrow⟩:=hI.row a row st hnst hst
    have c5:=l28End_fn l st hstv
    by_cases he:endP l st
    ·rw [bdec_t he] at c5
     have ho:=hco.fin he
     rw [<-ho]
     try simp (maxSteps:=9^9) only[go_sem,hS1]
     repeat refine AI ?_
     refine cw c5 ?_
     try simp (maxSteps:=9^9) only[go_sem,hS1]
     all_goals repeat refine AI ?_
     all_goals first|kernel_rfl|omega|rfl
    ·rw [bdec_f he] at c5
     try simp (maxSteps:=9^9) only[go_sem,hS1]
     repeat refine AI ?_
     refine cw c5 ?_
     try simp (maxSteps:=9^9) only[go_sem,hS1,hN1]
     repeat refine AI ?_
     refine LoopG.intro _ _ _ (fun k:Nat=>⟨[(0,.sl tTour l),(4,.ref tGraph (S,(N,finS l S)) 0),(5,.row 1 0),(6,.sc (.int .i64 a)),(41,.sl .int row),(42,.sc (.int .i64 row.length)),(43,.sc (.int .i64 k))],[(1,.row 3 .int 0 true out)]⟩) (fun k=>k<=l.length/\∀ j,j < k->¬ okF l st j) (fun k=>l.length - k) 0 ?_ ⟨Nat.zero_le _,fun j hj=>absurd hj (Nat.not_lt_zero _)⟩ ?_
     ·exact WK
     ·rintro k ⟨hk,hno⟩
      try simp (maxSteps:=9^9) only[go_sem]
      refine CondW_dec (fun hA=>?_) (fun hA=>?_)
      ·have hkr:k < row.length:=by omega
       have hkl:k < l.length:=by omega
       have hrk:=hrow k hkr
       by_cases hf:frP l st k
       ·obtain ⟨h1,h2⟩:=hrk.1 hf
        have hlS:=(List.getElem?_eq_some_iff.1 h2).1
        have hfn:nth (t:=.bool) (finS l S) (ni row k).toNat=bdec (canP l (adv st k)):=nthB h2
        have d1:=decide_eq_true h1
        have hnn:((ni row k).toNat:Int)=ni row k:=Int.toNat_of_nonneg h1
        by_cases hcn:canP l (adv st k)
        ·rw [bdec_t hcn] at hfn
         have hco':=hco.step he hkl ⟨hf,hcn⟩ hno
         have hr:=remN_adv hstv hkl hf
         try simp (maxSteps:=9^9) only[go_sem,d1,hlF]
         repeat refine AI ?_
         try simp (maxSteps:=9^9) only[go_sem,hfn]
         refine ⟨hb1,hb2,?_⟩
         repeat refine AI ?_
         refine LoopK.mk ((ni row k).toNat,adv st k,out++[(k:Int)]) ?_ ⟨h2,hco'⟩ hr
         dsimp only
         rw [hnn]
         exact WK
        ·rw [bdec_f hcn] at hfn
         try simp (maxSteps:=9^9) only[go_sem,d1,hlF]
         repeat refine AI ?_
         try simp (maxSteps:=9^9) only[go_sem,hfn]
         repeat refine AI ?_
         refine LoopK.mk (k+1) ?_ ⟨by omega,fun j hj hok=>?_⟩ (by omega)
         ·exact WK
         ·by_cases h:j < k
          ·exact hno j h hok
          ·rw [show j=k by omega] at hok
           exact hcn hok.2
       ·have h1:=hrk.2 hf
        try simp (maxSteps:=9^9) only[go_sem,h1]
        repeat refine AI ?_
        refine LoopK.mk (k+1) ?_ ⟨by omega,fun j hj hok=>?_⟩ (by omega)
        ·exact WK
        ·by_cases h:j < k
         ·exact hno j h hok
         ·rw [show j=k by omega] at hok
          exact hf hok.1
      ·obtain ⟨k',h1,h2⟩:=okF_ex hco.2.1 he
       exact absurd h2 (hno k' (by omega))
end Go.Proofs.YtbnkojgcbmfloaaGreat.DW

namespace Go.Proofs.YtbnkojgcbmfloaaGreat
open Go.RowKit
abbrev DVec:=Int × Int
abbrev RVec:Rp DVec:=Rp.prod Rp.int Rp.int
abbrev DVecS:=List DVec
abbrev RVecS:Rp DVecS:=Rp.slice RVec (by decide)
abbrev DTour:=DVecS × (DPlacement × DStepS)
abbrev RTour:Rp DTour:=Rp.prod RVecS (Rp.prod RPlacement RStepS)
def tTour (x:DTour):Nat:=(x.1.length+tPlacement x.2.1)+(x.2.2.length+tStepS x.2.2)
theorem list9 {α:Type} {l:List α} (h:l.length=9):∃ c0 c1 c2 c3 c4 c5 c6 c7 c8,l=[c0,c1,c2,c3,c4,c5,c6,c7,c8]:=by
 match l,h with
 | [c0,c1,c2,c3,c4,c5,c6,c7,c8],_=>exact ⟨c0,c1,c2,c3,c4,c5,c6,c7,c8,rfl⟩
namespace DW
theorem szVecS_fn (x:DVecS) (left:Int) (h0:0<=left) (h1:left<=1048576):Fn Tryz.prog 80 [⟨.slice DW.tVec,x⟩,⟨.int,left⟩] false [⟨.int,szr left x.length⟩]:=by
 by_cases h:(x.length:Int)<=left
 ·rw [<-szr_ge h]
  have d:=decide_eq_false (p:=left - (x.length:Int) < 0) (by omega)
  refine fe Tryz.func80 Tryz.ntmps80 Tryz.results80 fun hwf=>?_
  have hl:x.length<=9223372036854775807:=(hwf ⟨.slice DW.tVec,x⟩ (by simp)).1
  try simp (maxSteps:=9^9) only[go_sem]
  repeat refine AI ?_
  try simp (maxSteps:=9^9) only[go_sem,d]
  all_goals repeat refine AI ?_
  all_goals first|kernel_rfl|omega|rfl
 ·rw [<-szr_lt (by omega)]
  have d:=decide_eq_true (p:=left - (x.length:Int) < 0) (by omega)
  refine fe Tryz.func80 Tryz.ntmps80 Tryz.results80 fun hwf=>?_
  have hl:x.length<=9223372036854775807:=(hwf ⟨.slice DW.tVec,x⟩ (by simp)).1
  try simp (maxSteps:=9^9) only[go_sem]
  repeat refine AI ?_
  try simp (maxSteps:=9^9) only[go_sem,d]
  all_goals repeat refine AI ?_
  all_goals first|kernel_rfl|omega|rfl
theorem toVec_fn (x:DVec):Fn Tryz.prog 127 [⟨DW.tVec,x⟩] false [⟨DW.tVec,x⟩]:=by
 refine fe Tryz.func127 Tryz.ntmps127 Tryz.results127 fun hwf=>?_
 try simp (maxSteps:=9^9) only[go_sem]
 all_goals repeat refine AI ?_
 all_goals first|kernel_rfl|omega|rfl
theorem toVecS_fn (x:DVecS) (hs:x.length<=1048576):Fn Tryz.prog 88 [⟨.slice DW.tVec,x⟩] true [⟨.slice DW.tVec,x⟩]:=by
 refine fe Tryz.func88 Tryz.ntmps88 Tryz.results88 fun hwf=>?_
 try simp (maxSteps:=9^9) only[go_sem]
 repeat refine AI ?_
 refine LoopG.intro _ _ _ (fun i:Nat=>⟨[(0,.sl DW.tVec x),(3,.row 0 0),(4,.sc (.int .i64 i))],[(0,.row 61 DW.tVec 0 true (x.take i++List.replicate (x.length - i) ((0:Int),(0:Int))))]⟩) (fun i=>i<=x.length) (fun i=>x.length - i) 0 ?_ (Nat.zero_le _) ?_
 ·exact WK
 ·rintro i hi
  have hlen:(x.take i++List.replicate (x.length - i) ((0:Int),(0:Int))).length=x.length:=by simp; omega
  try simp (maxSteps:=9^9) only[go_sem]
  refine CondW_dec (fun hA=>?_) (fun hA=>?_)
  ·have hset:(x.take i++List.replicate (x.length - i) ((0:Int),(0:Int))).set i (nth (t:=DW.tVec) x i)=x.take (i+1)++List.replicate (x.length - (i+1)) ((0:Int),(0:Int)):=by
    have hlt:i < x.length:=by omega
    rw [List.set_append_right _ _ (by rw [List.length_take]; omega),List.length_take,show i - min i x.length=0 by omega,show x.length - i=(x.length - (i+1))+1 by omega,List.replicate_succ,List.set_cons_zero,nth_lt hlt]
    have e:x.take (i+1)=x.take i++[x[i]]:=List.take_succ_eq_append_getElem hlt
    rw [e,List.append_assoc]; rfl
   have ht:(List.take i x).length=i:=by rw [List.length_take]; omega
   have c1:=toVec_fn (nth (t:=DW.tVec) x i)
   try simp (maxSteps:=9^9) only[go_sem]
   repeat refine AI ?_
   repeat refine AI ?_
   refine cw c1 ?_
   try simp (maxSteps:=9^9) only[go_sem]
   repeat refine AI ?_
   refine LoopK.mk (i+1) ?_ (by omega) (by omega)
   rw [<-hset]
   exact WK
  ·have:x.take i++List.replicate (x.length - i) ((0:Int),(0:Int))=x:=by
    rw [List.take_of_length_le (by omega),show x.length - i=0 by omega]; simp
   rw [this]
   try simp (maxSteps:=9^9) only[go_sem]
   all_goals repeat refine AI ?_
   all_goals first|kernel_rfl|omega|rfl
theorem eqVec_fn (x y:DVec):Fn Tryz.prog 130 [⟨DW.tVec,x⟩,⟨DW.tVec,y⟩] false [⟨.bool,eqb x y⟩]:=by
 by_cases h1:x.1=y.1
 ·have d1:=decide_eq_true h1
  by_cases h2:x.2=y.2
  ·have d2:=decide_eq_true h2
   rw [eqb_true (Prod.ext h1 h2)]
   refine fe Tryz.func130 Tryz.ntmps130 Tryz.results130 fun hwf=>?_
   try simp (maxSteps:=9^9) only[go_sem,d1,d2]
  ·have d2:=decide_eq_false h2
   rw [eqb_false (fun h=>h2 (by rw [h]))]
   refine fe Tryz.func130 Tryz.ntmps130 Tryz.results130 fun hwf=>?_
   try simp (maxSteps:=9^9) only[go_sem,d1,d2]
 ·have d1:=decide_eq_false h1
  rw [eqb_false (fun h=>h1 (by rw [h]))]
  refine fe Tryz.func130 Tryz.ntmps130 Tryz.results130 fun hwf=>?_
  try simp (maxSteps:=9^9) only[go_sem,d1]
theorem eqVecS_fn (x y:DVecS):Fn Tryz.prog 91 [⟨.slice DW.tVec,x⟩,⟨.slice DW.tVec,y⟩] false [⟨.bool,eqb x y⟩]:=by
 by_cases h0:(x.length:Int)=y.length
 ·have d0:=decide_eq_true h0
  refine fe Tryz.func91 Tryz.ntmps91 Tryz.results91 fun hwf=>?_
  have hl:x.length<=9223372036854775807:=(hwf ⟨.slice DW.tVec,x⟩ (by simp)).1
  try simp (maxSteps:=9^9) only[go_sem,d0]
  refine LoopG.intro _ _ _ (fun i:Nat=>⟨[(0,.sl DW.tVec x),(1,.sl DW.tVec y),(5,.sc (.int .i64 i))],[]⟩) (fun i=>∀ j,j < i->j < x.length->nth (t:=DW.tVec) x j=nth (t:=DW.tVec) y j) (fun i=>x.length - i) 0 ?_ (fun j h=>absurd h (Nat.not_lt_zero _)) ?_
  ·exact WK
  ·rintro i hi
   try simp (maxSteps:=9^9) only[go_sem]
   refine CondW_dec (fun hA=>?_) (fun hA=>?_)
   ·have c1:=eqVec_fn (nth (t:=DW.tVec) x i) (nth (t:=DW.tVec) y i)
    by_cases e:nth (t:=DW.tVec) x i=nth (t:=DW.tVec) y i
    ·rw [eqb_true e] at c1
     try simp (maxSteps:=9^9) only[go_sem]
     repeat refine AI ?_
     repeat refine AI ?_
     refine cw c1 ?_
     try simp (maxSteps:=9^9) only[go_sem]
     repeat refine AI ?_
     refine LoopK.mk (i+1) ?_ (fun j h1 h2=>?_) (by omega)
     ·exact WK
     ·by_cases h3:j < i
      ·exact hi j h3 h2
      ·rw [show j=i by omega]; exact e
    ·rw [eqb_false e] at c1
     rw [eqb_false (fun h=>e (by rw [h]))]
     try simp (maxSteps:=9^9) only[go_sem]
     repeat refine AI ?_
     repeat refine AI ?_
     refine cw c1 ?_
     try simp (maxSteps:=9^9) only[go_sem]
     all_goals repeat refine AI ?_
     all_goals first|kernel_rfl|omega|rfl
   ·have:x=y:=by
     refine List.ext_getElem (by omega) fun j h1 h2=>?_
     have:=hi j (by omega) h1
     rwa [nth_lt h1,nth_lt h2] at this
    rw [eqb_true this]
    try simp (maxSteps:=9^9) only[go_sem]
 ·have d0:=decide_eq_false h0
  rw [eqb_false (fun h=>h0 (by rw [h]))]
  refine fe Tryz.func91 Tryz.ntmps91 Tryz.results91 fun hwf=>?_
  try simp (maxSteps:=9^9) only[go_sem,d0]
theorem szTour_fn (x:DTour) (left:Int) (h0:0<=left) (h1:left<=1048576):Fn Tryz.prog 50 [⟨DW.tTour,x⟩,⟨.int,left⟩] false [⟨.int,szr left (Go.Proofs.YtbnkojgcbmfloaaGreat.tTour x)⟩]:=by
 obtain ⟨r,p,l⟩:=x
 have c1:=szVecS_fn r left h0 h1
 have r1:=szr_lo left r.length h0
 have hT:Go.Proofs.YtbnkojgcbmfloaaGreat.tTour (r,p,l)=(r.length+tPlacement p)+(l.length+tStepS l):=rfl
 by_cases e1:szr left r.length < 0
 ·have d1:=decide_eq_true e1
  rw [<-szr_fail e1 (b:=Go.Proofs.YtbnkojgcbmfloaaGreat.tTour (r,p,l)) (by omega)]
  refine fe Tryz.func50 Tryz.ntmps50 Tryz.results50 fun hwf=>?_
  try simp (maxSteps:=9^9) only[go_sem]
  repeat refine AI ?_
  refine cw c1 ?_
  try simp (maxSteps:=9^9) only[go_sem]
  try simp (maxSteps:=9^9) only[go_sem,d1]
  all_goals repeat refine AI ?_
  all_goals first|kernel_rfl|omega|rfl
 ·have d1:=decide_eq_false e1
  have c2:=szPlacement_fn p (szr left r.length) (by omega) (by omega)
  have r2:=szr_lo (szr left r.length) (tPlacement p) (by omega)
  have a2:=szr_add left r.length (tPlacement p) (by omega)
  by_cases e2:szr (szr left r.length) (tPlacement p) < 0
  ·have d2:=decide_eq_true e2
   rw [<-szr_fail (by rw [<-a2]; exact e2) (a:=r.length+tPlacement p) (b:=Go.Proofs.YtbnkojgcbmfloaaGreat.tTour (r,p,l)) (by omega)]
   refine fe Tryz.func50 Tryz.ntmps50 Tryz.results50 fun hwf=>?_
   try simp (maxSteps:=9^9) only[go_sem]
   repeat refine AI ?_
   refine cw c1 ?_
   try simp (maxSteps:=9^9) only[go_sem]
   try simp (maxSteps:=9^9) only[go_sem,d1]
   repeat refine AI ?_
   refine cw c2 ?_
   try simp (maxSteps:=9^9) only[go_sem]
   try simp (maxSteps:=9^9) only[go_sem,d2]
   all_goals repeat refine AI ?_
   all_goals first|kernel_rfl|omega|rfl
  ·have d2:=decide_eq_false e2
   have c3:=szStepS_fn l (szr (szr left r.length) (tPlacement p)) (by omega) (by omega)
   have r3:=szr_lo (szr (szr left r.length) (tPlacement p)) (l.length+tStepS l) (by omega)
   have a3:=szr_add left (r.length+tPlacement p) (l.length+tStepS l) (by rw [<-a2]; omega)
   rw [<-a2] at a3
   rw [hT,<-a3]
   by_cases e3:szr (szr (szr left r.length) (tPlacement p)) (l.length+tStepS l) < 0
   ·have d3:=decide_eq_true e3
    have e4:szr (szr (szr left r.length) (tPlacement p)) (l.length+tStepS l)=-1:=by omega
    rw [e4] at d3 c3 ⊢
    refine fe Tryz.func50 Tryz.ntmps50 Tryz.results50 fun hwf=>?_
    try simp (maxSteps:=9^9) only[go_sem]
    repeat refine AI ?_
    refine cw c1 ?_
    try simp (maxSteps:=9^9) only[go_sem]
    try simp (maxSteps:=9^9) only[go_sem,d1]
    repeat refine AI ?_
    refine cw c2 ?_
    try simp (maxSteps:=9^9) only[go_sem]
    try simp (maxSteps:=9^9) only[go_sem,d2]
    repeat refine AI ?_
    refine cw c3 ?_
    try simp (maxSteps:=9^9) only[go_sem]
    all_goals repeat refine AI ?_
    all_goals first|kernel_rfl|omega|rfl
   ·have d3:=decide_eq_false e3
    refine fe Tryz.func50 Tryz.ntmps50 Tryz.results50 fun hwf=>?_
    try simp (maxSteps:=9^9) only[go_sem]
    repeat refine AI ?_
    refine cw c1 ?_
    try simp (maxSteps:=9^9) only[go_sem]
    try simp (maxSteps:=9^9) only[go_sem,d1]
    repeat refine AI ?_
    refine cw c2 ?_
    try simp (maxSteps:=9^9) only[go_sem]
    try simp (maxSteps:=9^9) only[go_sem,d2]
    repeat refine AI ?_
    refine cw c3 ?_
    try simp (maxSteps:=9^9) only[go_sem]
    try simp (maxSteps:=9^9) only[go_sem,d3]
    all_goals repeat refine AI ?_
    all_goals first|kernel_rfl|omega|rfl
theorem toTour_fn (x:DTour) (hs:Go.Proofs.YtbnkojgcbmfloaaGreat.tTour x<=1048576):Fn Tryz.prog 53 [⟨DW.tTour,x⟩] true [⟨DW.tTour,x⟩]:=by
 obtain ⟨r,p,l⟩:=x
 have hT:Go.Proofs.YtbnkojgcbmfloaaGreat.tTour (r,p,l)=(r.length+tPlacement p)+(l.length+tStepS l):=rfl
 have c1:=toVecS_fn r (by omega)
 have c2:=toPlacement_fn p (by omega)
 have c3:=toStepS_fn l (by omega)
 refine fe Tryz.func53 Tryz.ntmps53 Tryz.results53 fun hwf=>?_
 try simp (maxSteps:=9^9) only[go_sem]
 repeat refine AI ?_
 refine cw c1 ?_
 try simp (maxSteps:=9^9) only[go_sem]
 repeat refine AI ?_
 refine cw c2 ?_
 try simp (maxSteps:=9^9) only[go_sem]
 repeat refine AI ?_
 refine cw c3 ?_
 try simp (maxSteps:=9^9) only[go_sem]
 all_goals repeat refine AI ?_
 all_goals first|kernel_rfl|omega|rfl
theorem eqTour_fn (x y:DTour):Fn Tryz.prog 54 [⟨DW.tTour,x⟩,⟨DW.tTour,y⟩] false [⟨.bool,eqb x y⟩]:=by
 obtain ⟨r,p,l⟩:=x
 obtain ⟨r',p',l'⟩:=y
 have c1:=eqVecS_fn r r'
 have c2:=eqPlacement_fn p p'
 have c3:=eqStepS_fn l l'
 by_cases e1:r=r'
 ·rw [eqb_true e1] at c1
  by_cases e2:p=p'
  ·rw [eqb_true e2] at c2
   by_cases e3:l=l'
   ·rw [eqb_true e3] at c3
    rw [eqb_true (by rw [e1,e2,e3])]
    refine fe Tryz.func54 Tryz.ntmps54 Tryz.results54 fun hwf=>?_
    try simp (maxSteps:=9^9) only[go_sem]
    repeat refine AI ?_
    refine cw c1 ?_
    try simp (maxSteps:=9^9) only[go_sem]
    repeat refine AI ?_
    refine cw c2 ?_
    try simp (maxSteps:=9^9) only[go_sem]
    repeat refine AI ?_
    refine cw c3 ?_
    try simp (maxSteps:=9^9) only[go_sem]
   ·rw [eqb_false e3] at c3
    rw [eqb_false (fun h=>e3 (congrArg (fun z=>z.2.2) h))]
    refine fe Tryz.func54 Tryz.ntmps54 Tryz.results54 fun hwf=>?_
    try simp (maxSteps:=9^9) only[go_sem]
    repeat refine AI ?_
    refine cw c1 ?_
    try simp (maxSteps:=9^9) only[go_sem]
    repeat refine AI ?_
    refine cw c2 ?_
    try simp (maxSteps:=9^9) only[go_sem]
    repeat refine AI ?_
    refine cw c3 ?_
    try simp (maxSteps:=9^9) only[go_sem]
  ·rw [eqb_false e2] at c2
   rw [eqb_false (fun h=>e2 (congrArg (fun z=>z.2.1) h))]
   refine fe Tryz.func54 Tryz.ntmps54 Tryz.results54 fun hwf=>?_
   try simp (maxSteps:=9^9) only[go_sem]
   repeat refine AI ?_
   refine cw c1 ?_
   try simp (maxSteps:=9^9) only[go_sem]
   repeat refine AI ?_
   refine cw c2 ?_
   try simp (maxSteps:=9^9) only[go_sem]
 ·rw [eqb_false e1] at c1
  rw [eqb_false (fun h=>e1 (congrArg (fun z=>z.1) h))]
  refine fe Tryz.func54 Tryz.ntmps54 Tryz.results54 fun hwf=>?_
  try simp (maxSteps:=9^9) only[go_sem]
  repeat refine AI ?_
  refine cw c1 ?_
  try simp (maxSteps:=9^9) only[go_sem]
end DW
abbrev DTourS:=List DTour
abbrev RTourS:Rp DTourS:=Rp.slice RTour (by decide)
def tTourS:DTourS->Nat
 | []=>0
 | x :: l=>tTour x+tTourS l
theorem tTourS_snoc (l:DTourS) (x:DTour):tTourS (l++[x])=tTourS l+tTour x:=by
 induction l with
 | nil=>simp [tTourS]
 | cons y l ih=>simp [tTourS,ih]; omega
theorem tTourS_take (l:DTourS) (k:Nat):tTourS (l.take k)<=tTourS l:=by
 induction l generalizing k with
 | nil=>simp [tTourS]
 | cons y l ih=>cases k with
  | zero=>simp [tTourS]
  | succ k=>have:=ih k; simp [tTourS]; omega
theorem tTourS_mem {l:DTourS} {i:Nat} (h:i < l.length):tTour l[i]<=tTourS l:=by
 have h1:=tTourS_take l (i+1)
 rw [List.take_succ_eq_append_getElem h,tTourS_snoc] at h1
 omega
namespace DW
@[go_sem] theorem bts_Tour:bts Tryz.prog 38=some 168:=by kernel_rfl
theorem szTourS_fn (x:DTourS) (left:Int) (h0:0<=left) (h1:left<=1048576):Fn Tryz.prog 17 [⟨.slice DW.tTour,x⟩,⟨.int,left⟩] false [⟨.int,szr left (x.length+tTourS x)⟩]:=by
 by_cases h:left - (x.length:Int) < 0
 ·rw [<-szr_lt (by omega)]
  have d:=decide_eq_true h
  refine fe Tryz.func17 Tryz.ntmps17 Tryz.results17 fun hwf=>?_
  have hl:x.length<=9223372036854775807:=(hwf ⟨.slice DW.tTour,x⟩ (by simp)).1
  try simp (maxSteps:=9^9) only[go_sem]
  repeat refine AI ?_
  try simp (maxSteps:=9^9) only[go_sem,d]
  all_goals repeat refine AI ?_
  all_goals first|kernel_rfl|omega|rfl
 ·have d:=decide_eq_false h
  have hr0:=szr_lo left (x.length+tTourS x) h0
  refine fe Tryz.func17 Tryz.ntmps17 Tryz.results17 fun hwf=>?_
  have hl:x.length<=9223372036854775807:=(hwf ⟨.slice DW.tTour,x⟩ (by simp)).1
  try simp (maxSteps:=9^9) only[go_sem]
  repeat refine AI ?_
  try simp (maxSteps:=9^9) only[go_sem,d]
  refine LoopG.intro _ _ _ (fun i:Nat=>⟨[(0,.sl DW.tTour x),(1,.sc (.int .i64 (szr left (x.length+tTourS (x.take i))))),(5,.sc (.int .i64 i))],[]⟩) (fun i=>i<=x.length/\0<=szr left (x.length+tTourS (x.take i))) (fun i=>x.length - i) 0 ?_ ⟨Nat.zero_le _,by
   have e:szr left (x.length+tTourS (x.take 0))=left - x.length:=by simp [tTourS]; exact (szr_ge (by omega)).symm
   rw [e]; omega⟩ ?_
  ·have e:szr left (x.length+tTourS (x.take 0))=left - x.length:=by simp [tTourS]; exact (szr_ge (by omega)).symm
   rw [e]
   exact WK
  ·rintro i ⟨hi,hle⟩
   have hr1:=szr_lo left (x.length+tTourS (x.take i)) h0
   try simp (maxSteps:=9^9) only[go_sem]
   refine CondW_dec (fun hA=>?_) (fun hA=>?_)
   ·have hlt:i < x.length:=by omega
    have hts:tTourS (x.take i)+Go.Proofs.YtbnkojgcbmfloaaGreat.tTour x[i]=tTourS (x.take (i+1)):=by rw [List.take_succ_eq_append_getElem hlt,tTourS_snoc]
    have c1:=szTour_fn (nth (t:=DW.tTour) x i) (szr left (x.length+tTourS (x.take i))) hle (by omega)
    rw [nth_lt hlt,szr_add _ _ _ hle,Nat.add_assoc,hts] at c1
    rw [<-nth_lt (t:=DW.tTour) hlt] at c1
    have hr2:=szr_lo left (x.length+tTourS (x.take (i+1))) h0
    by_cases e1:szr left (x.length+tTourS (x.take (i+1))) < 0
    ·have d1:=decide_eq_true e1
     have hf:=szr_fail e1 (b:=x.length+tTourS x) (Nat.add_le_add_left (tTourS_take x (i+1)) _)
     rw [<-hf]
     try simp (maxSteps:=9^9) only[go_sem]
     repeat refine AI ?_
     repeat refine AI ?_
     refine cw c1 ?_
     try simp (maxSteps:=9^9) only[go_sem]
     try simp (maxSteps:=9^9) only[go_sem,d1]
     all_goals repeat refine AI ?_
     all_goals first|kernel_rfl|omega|rfl
    ·have d1:=decide_eq_false e1
     try simp (maxSteps:=9^9) only[go_sem]
     repeat refine AI ?_
     repeat refine AI ?_
     refine cw c1 ?_
     try simp (maxSteps:=9^9) only[go_sem]
     try simp (maxSteps:=9^9) only[go_sem,d1]
     repeat refine AI ?_
     refine LoopK.mk (i+1) ?_ ⟨by omega,by omega⟩ (by omega)
     exact WK
   ·have hi2:i=x.length:=by omega
    subst hi2
    rw [List.take_length] at hr1 ⊢
    try simp (maxSteps:=9^9) only[go_sem]
    all_goals repeat refine AI ?_
    all_goals first|kernel_rfl|omega|rfl
theorem toTourS_fn (x:DTourS) (hs:x.length+tTourS x<=1048576):Fn Tryz.prog 19 [⟨.slice DW.tTour,x⟩] true [⟨.slice DW.tTour,x⟩]:=by
 refine fe Tryz.func19 Tryz.ntmps19 Tryz.results19 fun hwf=>?_
 try simp (maxSteps:=9^9) only[go_sem]
 repeat refine AI ?_
 refine LoopG.intro _ _ _ (fun i:Nat=>⟨[(0,.sl DW.tTour x),(3,.row 0 0),(4,.sc (.int .i64 i))],[(0,.row 38 DW.tTour 0 true (x.take i++List.replicate (x.length - i) (([],(((0:Int),(((false,[]),[]),((false,[]),[]))),[])):DTour)))]⟩) (fun i=>i<=x.length) (fun i=>x.length - i) 0 ?_ (Nat.zero_le _) ?_
 ·exact WK
 ·rintro i hi
  have hlen:(x.take i++List.replicate (x.length - i) (([],(((0:Int),(((false,[]),[]),((false,[]),[]))),[])):DTour)).length=x.length:=by simp; omega
  try simp (maxSteps:=9^9) only[go_sem]
  refine CondW_dec (fun hA=>?_) (fun hA=>?_)
  ·have hlt:i < x.length:=by omega
   have hset:(x.take i++List.replicate (x.length - i) (([],(((0:Int),(((false,[]),[]),((false,[]),[]))),[])):DTour)).set i (nth (t:=DW.tTour) x i)=x.take (i+1)++List.replicate (x.length - (i+1)) (([],(((0:Int),(((false,[]),[]),((false,[]),[]))),[])):DTour):=by
    rw [List.set_append_right _ _ (by rw [List.length_take]; omega),List.length_take,show i - min i x.length=0 by omega,show x.length - i=(x.length - (i+1))+1 by omega,List.replicate_succ,List.set_cons_zero,nth_lt hlt]
    have e:x.take (i+1)=x.take i++[x[i]]:=List.take_succ_eq_append_getElem hlt
    rw [e,List.append_assoc]; rfl
   have ht:(List.take i x).length=i:=by rw [List.length_take]; omega
   have c1:=toTour_fn (nth (t:=DW.tTour) x i) (by rw [nth_lt hlt]; have:=tTourS_mem hlt; omega)
   try simp (maxSteps:=9^9) only[go_sem]
   repeat refine AI ?_
   repeat refine AI ?_
   refine cw c1 ?_
   try simp (maxSteps:=9^9) only[go_sem]
   repeat refine AI ?_
   refine LoopK.mk (i+1) ?_ (by omega) (by omega)
   rw [<-hset]
   exact WK
  ·have:x.take i++List.replicate (x.length - i) (([],(((0:Int),(((false,[]),[]),((false,[]),[]))),[])):DTour)=x:=by
    rw [List.take_of_length_le (by omega),show x.length - i=0 by omega]; simp
   rw [this]
   try simp (maxSteps:=9^9) only[go_sem]
   all_goals repeat refine AI ?_
   all_goals first|kernel_rfl|omega|rfl
theorem eqTourS_fn (x y:DTourS):Fn Tryz.prog 20 [⟨.slice DW.tTour,x⟩,⟨.slice DW.tTour,y⟩] false [⟨.bool,eqb x y⟩]:=by
 by_cases h0:(x.length:Int)=y.length
 ·have d0:=decide_eq_true h0
  refine fe Tryz.func20 Tryz.ntmps20 Tryz.results20 fun hwf=>?_
  have hl:x.length<=9223372036854775807:=(hwf ⟨.slice DW.tTour,x⟩ (by simp)).1
  try simp (maxSteps:=9^9) only[go_sem,d0]
  refine LoopG.intro _ _ _ (fun i:Nat=>⟨[(0,.sl DW.tTour x),(1,.sl DW.tTour y),(5,.sc (.int .i64 i))],[]⟩) (fun i=>∀ j,j < i->j < x.length->nth (t:=DW.tTour) x j=nth (t:=DW.tTour) y j) (fun i=>x.length - i) 0 ?_ (fun j h=>absurd h (Nat.not_lt_zero _)) ?_
  ·exact WK
  ·rintro i hi
   try simp (maxSteps:=9^9) only[go_sem]
   refine CondW_dec (fun hA=>?_) (fun hA=>?_)
   ·have c1:=eqTour_fn (nth (t:=DW.tTour) x i) (nth (t:=DW.tTour) y i)
    by_cases e:nth (t:=DW.tTour) x i=nth (t:=DW.tTour) y i
    ·rw [eqb_true e] at c1
     try simp (maxSteps:=9^9) only[go_sem]
     repeat refine AI ?_
     repeat refine AI ?_
     refine cw c1 ?_
     try simp (maxSteps:=9^9) only[go_sem]
     repeat refine AI ?_
     refine LoopK.mk (i+1) ?_ (fun j h1 h2=>?_) (by omega)
     ·exact WK
     ·by_cases h3:j < i
      ·exact hi j h3 h2
      ·rw [show j=i by omega]; exact e
    ·rw [eqb_false e] at c1
     rw [eqb_false (fun h=>e (by rw [h]))]
     try simp (maxSteps:=9^9) only[go_sem]
     repeat refine AI ?_
     repeat refine AI ?_
     refine cw c1 ?_
     try simp (maxSteps:=9^9) only[go_sem]
     all_goals repeat refine AI ?_
     all_goals first|kernel_rfl|omega|rfl
   ·have:x=y:=by
     refine List.ext_getElem (by omega) fun j h1 h2=>?_
     have:=hi j (by omega) h1
     rwa [nth_lt h1,nth_lt h2] at this
    rw [eqb_true this]
    try simp (maxSteps:=9^9) only[go_sem]
 ·have d0:=decide_eq_false h0
  rw [eqb_false (fun h=>h0 (by rw [h]))]
  refine fe Tryz.func20 Tryz.ntmps20 Tryz.results20 fun hwf=>?_
  try simp (maxSteps:=9^9) only[go_sem,d0]
end DW
def ecVec (x:DVec):Nat:=1+1
def emVec (x:DVec) (k:Int):DVec:=(k,k+1)
def cnVecS:DVecS->Nat
 | []=>0
 | x :: l=>ecVec x+cnVecS l
theorem cnVecS_snoc (l:DVecS) (x:DVec):cnVecS (l++[x])=cnVecS l+ecVec x:=by
 induction l with
 | nil=>simp [cnVecS]
 | cons y l ih=>simp [cnVecS,ih]; omega
theorem cnVecS_take (l:DVecS) (k:Nat):cnVecS (l.take k)<=cnVecS l:=by
 induction l generalizing k with
 | nil=>simp [cnVecS]
 | cons y l ih=>cases k with
  | zero=>simp [cnVecS]
  | succ k=>have:=ih k; simp [cnVecS]; omega
def mkVecS:DVecS->Int->DVecS
 | [],_=>[]
 | x :: l,k=>emVec x k :: mkVecS l (k+ecVec x)
theorem mkVecS_len (l:DVecS) (k:Int):(mkVecS l k).length=l.length:=by
 induction l generalizing k with
 | nil=>rfl
 | cons y l ih=>simp [mkVecS,ih]
theorem mkVecS_snoc (l:DVecS) (x:DVec) (k:Int):mkVecS (l++[x]) k=mkVecS l k++[emVec x (k+cnVecS l)]:=by
 induction l generalizing k with
 | nil=>simp [mkVecS,cnVecS]
 | cons y l ih=>simp only [List.cons_append,mkVecS,ih,cnVecS]; rw [show k+(ecVec y:Int)+(cnVecS l:Int)=k+((ecVec y+cnVecS l:Nat):Int) from by omega]
def mkTour (x:DTour) (k:Int):DTour:=(mkVecS x.1 k,mkPlacement x.2.1 (k+cnVecS x.1),mkStepS x.2.2 (k+cnVecS x.1+cnPlacement x.2.1))
set_option maxHeartbeats 1000000 in
theorem markVecS_any (v:Value) (x:DVecS) (k:Int) (fp:List Nat) (w:World) (hx:RVecS.rep w [v] x fp) (hn:fp.Nodup) (hf:∀ b ∈ fp,Free w b) (h0:0<=k) (h1:k+cnVecS x<=1073741824) :
  Calls Tryz.prog 57 #[v,.int .i64 k] w (Post (MarkPost RVecS [v] (mkVecS x k) fp (k+cnVecS x) w)):=by
 obtain ⟨ad,c,hv,hlc,hm,hh⟩:=hx
 injection hv with hv
 subst hv
 unfold maxLen at hm
 rcases hh with ⟨rfl,rfl⟩|⟨b,off,fps,hl,rfl,rfl,he⟩
 ·go_enter Tryz.func57,Tryz.ntmps57
  go_wp2
  go_loopw [1,5] (fun kk i wr=>i=.int .i64 0/\kk=.int .i64 k/\wr=w) (fun _ _ _=>0)
  case atStart=>exact ⟨rfl,rfl,rfl⟩
  case round =>
   obtain ⟨rfl,rfl,rfl⟩:=hrel
   go_wp2
   go_ret
   exact ⟨_,rfl,congrArg (Value.int .i64) (by simp [cnVecS]),⟨ad,c,rfl,hlc,by unfold maxLen; omega,.inl ⟨rfl,rfl⟩⟩,Upto.refl _ _⟩
 have HN:=Lib.hid hn; have HF:=Lib.hid hf; have HE:=Lib.hid he; have HL:=Lib.hid hl; clear hn hf he hl
 go_enter Tryz.func57,Tryz.ntmps57
 go_wp2
 go_loopw [1,5] (fun kk i wr=>∃ j:Nat,j<=x.length/\i=.int .i64 j/\kk=.int .i64 (k+(cnVecS (x.take j):Nat))/\Elems RVec wr b off (mkVecS (x.take j) k++x.drop j) fps/\Upto (b :: fps.flatten) w wr) (fun _ i _=>x.length - (intOf i).toNat)
 case atStart=>exact ⟨0,Nat.zero_le _,rfl,congrArg (Value.int .i64) (by simp [cnVecS]),by simpa [mkVecS] using HE.out,Upto.refl _ _⟩
 case round =>
  obtain ⟨j,hj,rfl,rfl,hE,hU⟩:=hrel
  have HEr:=Lib.hid hE; have HU:=Lib.hid hU; clear hE hU
  by_cases hjl:j < x.length
  rotate_left
  ·obtain rfl:j=x.length:=by omega
   go_wp2
   go_ret
   have h:=HEr.out
   rw [List.take_length,List.drop_length,List.append_nil] at h
   have hml:=mkVecS_len x k
   exact ⟨_,rfl,congrArg (Value.int .i64) (by rw [List.take_length]),⟨_,c,by rw [hml],by rw [hml]; exact hlc,by unfold maxLen; omega,.inr ⟨b,off,fps,fun e=>HL.out (List.eq_nil_of_length_eq_zero (by rw [<-hml,e]; rfl)),rfl,rfl,h⟩⟩,HU.out⟩
  have hml:(mkVecS (x.take j) k).length=j:=by rw [mkVecS_len,List.length_take]; omega
  have hget:(mkVecS (x.take j) k++x.drop j)[j]? = some x[j]:=by rw [List.getElem?_append_right (by omega),hml]; simp
  obtain ⟨f,cs,hfj,hr,hcs⟩:=HEr.out.2 j _ hget
  have hfr:=HU.out.free b List.mem_cons_self (HF.out b List.mem_cons_self)
  have hbf:b ∉ f:=fun h=>(List.nodup_cons.1 HN.out).1 (flat_mem hfj b h)
  have hff:∀ z ∈ f,Free wr z:=fun z hz=>HU.out.free z (List.mem_cons_of_mem _ (flat_mem hfj z hz)) (HF.out z (List.mem_cons_of_mem _ (flat_mem hfj z hz)))
  have hfn:f.Nodup:=(List.pairwise_flatten.1 (List.nodup_cons.1 HN.out).2).1 f (List.mem_of_getElem? hfj)
  have hec:cnVecS (x.take j)+ecVec x[j]=cnVecS (x.take (j+1)):=by rw [List.take_succ_eq_append_getElem hjl,cnVecS_snoc]
  have hect:=cnVecS_take x (j+1)
  obtain ⟨q,hq⟩:∃ q:Int,q=k+(cnVecS (x.take j):Nat):=⟨_,rfl⟩
  have hq0:0<=q:=by omega
  have hq1:q+(ecVec x[j]:Nat)<=1073741824:=by omega
  rw [<-hq]
  have HQ:=Lib.hid hq; have HEC:=Lib.hid hec; have HML:=Lib.hid hml; have HFJ:=Lib.hid hfj
  clear hq hec hml hget hfj hect
  obtain ⟨c0,c1,rfl⟩:=list2 (RVec.len hr)
  obtain ⟨f0,f1,rfl,hp0,hp1⟩:=rep_split [c0] [c1] rfl hr
  obtain ⟨he0,rfl,hI0⟩:=hp0
  injection he0 with he0; subst he0
  obtain ⟨he1,rfl,hI1⟩:=hp1
  injection he1 with he1; subst he1
  have hnd:=hfn
  simp only [List.nil_append,List.append_assoc] at hnd
  have HFF:=Lib.hid hff; have HBF:=Lib.hid hbf; clear hff hbf hfn
  have nd0:=hnd
  have hqe:=hq1; simp only [ecVec] at hqe
  have hbl0:b < wr.heap.size:=hfr.lt
  have g0:wr.cell? ⟨b,off+j * 2,none⟩=some (Value.int .i64 x[j].1):=hcs 0 _ rfl
  have g1:wr.cell? ⟨b,off+j * 2+1,none⟩=some (Value.int .i64 x[j].2):=hcs 1 _ rfl
  have hfz:=hfr.frozen
  have HT0:=Lib.hid (Upto.refl (b :: ([]++[])) wr)
  clear hcs hfr
  go_wp2
  go_roundw
  case rel =>
   have hBe:Upto [b] wr _:=(((Upto.refl [b] wr).setCell (p:=⟨b,off+j * 2,none⟩) List.mem_cons_self (Value.int .i64 (q))).setCell (p:=⟨b,off+j * 2+1,none⟩) List.mem_cons_self (Value.int .i64 (q+1)))
   have e0:((wr.setCell ⟨b,off+j * 2,none⟩ (Value.int .i64 (q))).setCell ⟨b,off+j * 2+1,none⟩ (Value.int .i64 (q+1))).cell? ⟨b,off+j * 2,none⟩=some (Value.int .i64 (q)):=by simp [go_sem,g0]
   have e1:((wr.setCell ⟨b,off+j * 2,none⟩ (Value.int .i64 (q))).setCell ⟨b,off+j * 2+1,none⟩ (Value.int .i64 (q+1))).cell? ⟨b,off+j * 2+1,none⟩=some (Value.int .i64 (q+1)):=by simp [go_sem,g1]
   have hup:=HEr.out.update (w':=((wr.setCell ⟨b,off+j * 2,none⟩ (Value.int .i64 (q))).setCell ⟨b,off+j * 2+1,none⟩ (Value.int .i64 (q+1)))) (x':=emVec x[j] q) (cs':=[(Value.int .i64 (q)),(Value.int .i64 (q+1))]) HN.out HFJ.out (rep_pair (rep_int [] (by first|rfl|(simp only [ecVec]; omega)) (by constructor<;>omega)) (rep_int [] (by first|rfl|(simp only [ecVec]; omega)) (by constructor<;>omega))) (cells_cons e0 (cells_cons e1 cells_nil))
    (fun z hz hzb hzf=>(((HT0.out.setCell (p:=⟨b,off+j * 2,none⟩) List.mem_cons_self (Value.int .i64 (q))).setCell (p:=⟨b,off+j * 2+1,none⟩) List.mem_cons_self (Value.int .i64 (q+1)))).block z hz (by rw [List.mem_cons]; exact fun h=>h.elim hzb hzf))
    (fun o ho=>have ho:o < off+j * 2\/off+j * 2+2<=o:=by have h1:(j+1) * 2=j * 2+2:=Nat.succ_mul _ _; have h2:o < off+j * 2\/off+(j+1) * 2<=o:=ho; omega
     ((setCell_out (Value.int .i64 (q+1)) (by omega)).trans ((setCell_out (Value.int .i64 (q)) (by omega)).trans rfl)))
   have e:(mkVecS (x.take j) k++x.drop j).set j (emVec x[j] q)=mkVecS (x.take (j+1)) k++x.drop (j+1):=by
    rw [List.set_append_right _ _ (by rw [HML.out]; exact Nat.le_refl _),HML.out,Nat.sub_self,List.drop_eq_getElem_cons hjl,List.set_cons_zero,List.take_succ_eq_append_getElem hjl,mkVecS_snoc,<-HQ.out]
    simp
   rw [e] at hup
   refine ⟨j+1,by omega,by go_num,congrArg (Value.int .i64) ?_,hup,HU.out.trans ((((HT0.out.setCell (p:=⟨b,off+j * 2,none⟩) List.mem_cons_self (Value.int .i64 (q))).setCell (p:=⟨b,off+j * 2+1,none⟩) List.mem_cons_self (Value.int .i64 (q+1)))).mono ?_)⟩
   ·have h1:=HQ.out; have h2:=HEC.out; simp only [ecVec] at h2; omega
   ·intro z hz; rcases List.mem_cons.1 hz with rfl|hz; exact List.mem_cons_self; exact List.mem_cons_of_mem _ (flat_mem HFJ.out z hz)
  case measure=>simp [intOf]; omega
namespace DW
@[go_sem] theorem mkTour_sc0 (x:DTour) (k:Int):(mkTour x k).2.1.1=x.2.1.1:=(rfl)
@[go_sem] theorem mkTour_sc1 (x:DTour) (k:Int):(mkTour x k).2.1.2.1.1.1=x.2.1.2.1.1.1:=(rfl)
@[go_sem] theorem mkTour_sc2 (x:DTour) (k:Int):(mkTour x k).2.1.2.2.1.1=x.2.1.2.2.1.1:=(rfl)
theorem cnVecS_le (x:DVecS):cnVecS x=2 * x.length:=by
 induction x with
 | nil=>rfl
 | cons y l ih=>rw [cnVecS,ih,List.length_cons]; unfold ecVec; omega
end DW
def ecTour (x:DTour):Nat:=cnVecS x.1+ecPlacement x.2.1+cnStepS x.2.2
def emTour (x:DTour) (k:Int):DTour:=(mkVecS x.1 k,emPlacement x.2.1 (k+cnVecS x.1),mkStepS x.2.2 (k+cnVecS x.1+ecPlacement x.2.1))
def cnTourS:DTourS->Nat
 | []=>0
 | x :: l=>ecTour x+cnTourS l
theorem cnTourS_snoc (l:DTourS) (x:DTour):cnTourS (l++[x])=cnTourS l+ecTour x:=by
 induction l with
 | nil=>simp [cnTourS]
 | cons y l ih=>simp [cnTourS,ih]; omega
theorem cnTourS_take (l:DTourS) (k:Nat):cnTourS (l.take k)<=cnTourS l:=by
 induction l generalizing k with
 | nil=>simp [cnTourS]
 | cons y l ih=>cases k with
  | zero=>simp [cnTourS]
  | succ k=>have:=ih k; simp [cnTourS]; omega
def mkTourS:DTourS->Int->DTourS
 | [],_=>[]
 | x :: l,k=>emTour x k :: mkTourS l (k+ecTour x)
theorem mkTourS_len (l:DTourS) (k:Int):(mkTourS l k).length=l.length:=by
 induction l generalizing k with
 | nil=>rfl
 | cons y l ih=>simp [mkTourS,ih]
theorem mkTourS_snoc (l:DTourS) (x:DTour) (k:Int):mkTourS (l++[x]) k=mkTourS l k++[emTour x (k+cnTourS l)]:=by
 induction l generalizing k with
 | nil=>simp [mkTourS,cnTourS]
 | cons y l ih=>simp only [List.cons_append,mkTourS,ih,cnTourS]; rw [show k+(ecTour y:Int)+(cnTourS l:Int)=k+((ecTour y+cnTourS l:Nat):Int) from by omega]
set_option maxHeartbeats 1000000 in
theorem markTourS_any (v:Value) (x:DTourS) (k:Int) (fp:List Nat) (w:World) (hx:RTourS.rep w [v] x fp) (hn:fp.Nodup) (hf:∀ b ∈ fp,Free w b) (h0:0<=k) (h1:k+cnTourS x<=1073741824) :
  Calls Tryz.prog 26 #[v,.int .i64 k] w (Post (MarkPost RTourS [v] (mkTourS x k) fp (k+cnTourS x) w)):=by
 obtain ⟨ad,c,hv,hlc,hm,hh⟩:=hx
 injection hv with hv
 subst hv
 unfold maxLen at hm
 rcases hh with ⟨rfl,rfl⟩|⟨b,off,fps,hl,rfl,rfl,he⟩
 ·go_enter Tryz.func26,Tryz.ntmps26
  go_wp2
  go_loopw [1,5] (fun kk i wr=>i=.int .i64 0/\kk=.int .i64 k/\wr=w) (fun _ _ _=>0)
  case atStart=>exact ⟨rfl,rfl,rfl⟩
  case round =>
   obtain ⟨rfl,rfl,rfl⟩:=hrel
   go_wp2
   go_ret
   exact ⟨_,rfl,congrArg (Value.int .i64) (by simp [cnTourS]),⟨ad,c,rfl,hlc,by unfold maxLen; omega,.inl ⟨rfl,rfl⟩⟩,Upto.refl _ _⟩
 have HN:=Lib.hid hn; have HF:=Lib.hid hf; have HE:=Lib.hid he; have HL:=Lib.hid hl; clear hn hf he hl
 go_enter Tryz.func26,Tryz.ntmps26
 go_wp2
 go_loopw [1,5] (fun kk i wr=>∃ j:Nat,j<=x.length/\i=.int .i64 j/\kk=.int .i64 (k+(cnTourS (x.take j):Nat))/\Elems RTour wr b off (mkTourS (x.take j) k++x.drop j) fps/\Upto (b :: fps.flatten) w wr) (fun _ i _=>x.length - (intOf i).toNat)
 case atStart=>exact ⟨0,Nat.zero_le _,rfl,congrArg (Value.int .i64) (by simp [cnTourS]),by simpa [mkTourS] using HE.out,Upto.refl _ _⟩
 case round =>
  obtain ⟨j,hj,rfl,rfl,hE,hU⟩:=hrel
  have HEr:=Lib.hid hE; have HU:=Lib.hid hU; clear hE hU
  by_cases hjl:j < x.length
  rotate_left
  ·obtain rfl:j=x.length:=by omega
   go_wp2
   go_ret
   have h:=HEr.out
   rw [List.take_length,List.drop_length,List.append_nil] at h
   have hml:=mkTourS_len x k
   exact ⟨_,rfl,congrArg (Value.int .i64) (by rw [List.take_length]),⟨_,c,by rw [hml],by rw [hml]; exact hlc,by unfold maxLen; omega,.inr ⟨b,off,fps,fun e=>HL.out (List.eq_nil_of_length_eq_zero (by rw [<-hml,e]; rfl)),rfl,rfl,h⟩⟩,HU.out⟩
  have hml:(mkTourS (x.take j) k).length=j:=by rw [mkTourS_len,List.length_take]; omega
  have hget:(mkTourS (x.take j) k++x.drop j)[j]? = some x[j]:=by rw [List.getElem?_append_right (by omega),hml]; simp
  obtain ⟨f,cs,hfj,hr,hcs⟩:=HEr.out.2 j _ hget
  have hfr:=HU.out.free b List.mem_cons_self (HF.out b List.mem_cons_self)
  have hbf:b ∉ f:=fun h=>(List.nodup_cons.1 HN.out).1 (flat_mem hfj b h)
  have hff:∀ z ∈ f,Free wr z:=fun z hz=>HU.out.free z (List.mem_cons_of_mem _ (flat_mem hfj z hz)) (HF.out z (List.mem_cons_of_mem _ (flat_mem hfj z hz)))
  have hfn:f.Nodup:=(List.pairwise_flatten.1 (List.nodup_cons.1 HN.out).2).1 f (List.mem_of_getElem? hfj)
  have hec:cnTourS (x.take j)+ecTour x[j]=cnTourS (x.take (j+1)):=by rw [List.take_succ_eq_append_getElem hjl,cnTourS_snoc]
  have hect:=cnTourS_take x (j+1)
  obtain ⟨q,hq⟩:∃ q:Int,q=k+(cnTourS (x.take j):Nat):=⟨_,rfl⟩
  have hq0:0<=q:=by omega
  have hq1:q+(ecTour x[j]:Nat)<=1073741824:=by omega
  rw [<-hq]
  have HQ:=Lib.hid hq; have HEC:=Lib.hid hec; have HML:=Lib.hid hml; have HFJ:=Lib.hid hfj
  clear hq hec hml hget hfj hect
  obtain ⟨c0,c1,c2,c3,c4,c5,c6,c7,c8,rfl⟩:=list9 (RTour.len hr)
  obtain ⟨f0,f1,rfl,hp0,hp1⟩:=rep_split [c0] [c1,c2,c3,c4,c5,c6,c7,c8] rfl hr
  obtain ⟨f2,f3,rfl,hp2,hp3⟩:=rep_split [c1,c2,c3,c4,c5,c6,c7] [c8] rfl hp1
  obtain ⟨f4,f5,rfl,hp4,hp5⟩:=rep_split [c1] [c2,c3,c4,c5,c6,c7] rfl hp2
  obtain ⟨f6,f7,rfl,hp6,hp7⟩:=rep_split [c2,c3,c4] [c5,c6,c7] rfl hp5
  obtain ⟨f8,f9,rfl,hp8,hp9⟩:=rep_split [c2,c3] [c4] rfl hp6
  obtain ⟨f10,f11,rfl,hp10,hp11⟩:=rep_split [c2] [c3] rfl hp8
  obtain ⟨f12,f13,rfl,hp12,hp13⟩:=rep_split [c5,c6] [c7] rfl hp7
  obtain ⟨f14,f15,rfl,hp14,hp15⟩:=rep_split [c5] [c6] rfl hp12
  obtain ⟨he1,rfl,hI1⟩:=hp4
  injection he1 with he1; subst he1
  obtain ⟨he2,rfl⟩:=hp10
  injection he2 with he2; subst he2
  obtain ⟨he5,rfl⟩:=hp14
  injection he5 with he5; subst he5
  have hnd:=hfn
  simp only [List.nil_append,List.append_assoc] at hnd
  have HFF:=Lib.hid hff; have HBF:=Lib.hid hbf; clear hff hbf hfn
  obtain ⟨nd0,hnd0,dd0,de0⟩:=nodup_app hnd
  obtain ⟨nd1,hnd1,dd1,de1⟩:=nodup_app hnd0
  obtain ⟨nd2,hnd2,dd2,de2⟩:=nodup_app hnd1
  obtain ⟨nd3,hnd3,dd3,de3⟩:=nodup_app hnd2
  obtain ⟨nd4,nd5,dd4,de4⟩:=nodup_app hnd3
  have hm0:∀ z ∈ f0,z ∈ (f0++(([]++((([]++f11)++f9)++(([]++f15)++f13)))++f3)):=fun z hz=>(List.mem_append.2 (.inl hz))
  have nb0:b ∉ f0:=fun h=>HBF.out (hm0 b h)
  have LP0_0:=Lib.hid hp0; have FR0_0:=Lib.hid (fun (z:Nat) (hz:z ∈ f0)=>HFF.out z (hm0 z hz)); clear hp0
  have hl0:(0:Int)<=(cnVecS x[j].1:Nat):=Int.natCast_nonneg _
  have hm1:∀ z ∈ f11,z ∈ (f0++(([]++((([]++f11)++f9)++(([]++f15)++f13)))++f3)):=fun z hz=>(List.mem_append.2 (.inr (List.mem_append.2 (.inl (List.mem_append.2 (.inr (List.mem_append.2 (.inl (List.mem_append.2 (.inl (List.mem_append.2 (.inr hz))))))))))))
  have nb1:b ∉ f11:=fun h=>HBF.out (hm1 b h)
  have LP1_0:=Lib.hid hp11; have FR1_0:=Lib.hid (fun (z:Nat) (hz:z ∈ f11)=>HFF.out z (hm1 z hz)); clear hp11
  have hl1:(0:Int)<=(x[j].2.1.2.1.1.2.length:Nat):=Int.natCast_nonneg _
  have hm2:∀ z ∈ f9,z ∈ (f0++(([]++((([]++f11)++f9)++(([]++f15)++f13)))++f3)):=fun z hz=>(List.mem_append.2 (.inr (List.mem_append.2 (.inl (List.mem_append.2 (.inr (List.mem_append.2 (.inl (List.mem_append.2 (.inr hz))))))))))
  have nb2:b ∉ f9:=fun h=>HBF.out (hm2 b h)
  have LP2_0:=Lib.hid hp9; have FR2_0:=Lib.hid (fun (z:Nat) (hz:z ∈ f9)=>HFF.out z (hm2 z hz)); clear hp9
  have hl2:(0:Int)<=(x[j].2.1.2.1.2.length:Nat):=Int.natCast_nonneg _
  have hm3:∀ z ∈ f15,z ∈ (f0++(([]++((([]++f11)++f9)++(([]++f15)++f13)))++f3)):=fun z hz=>(List.mem_append.2 (.inr (List.mem_append.2 (.inl (List.mem_append.2 (.inr (List.mem_append.2 (.inr (List.mem_append.2 (.inl (List.mem_append.2 (.inr hz))))))))))))
  have nb3:b ∉ f15:=fun h=>HBF.out (hm3 b h)
  have LP3_0:=Lib.hid hp15; have FR3_0:=Lib.hid (fun (z:Nat) (hz:z ∈ f15)=>HFF.out z (hm3 z hz)); clear hp15
  have hl3:(0:Int)<=(x[j].2.1.2.2.1.2.length:Nat):=Int.natCast_nonneg _
  have hm4:∀ z ∈ f13,z ∈ (f0++(([]++((([]++f11)++f9)++(([]++f15)++f13)))++f3)):=fun z hz=>(List.mem_append.2 (.inr (List.mem_append.2 (.inl (List.mem_append.2 (.inr (List.mem_append.2 (.inr (List.mem_append.2 (.inr hz))))))))))
  have nb4:b ∉ f13:=fun h=>HBF.out (hm4 b h)
  have LP4_0:=Lib.hid hp13; have FR4_0:=Lib.hid (fun (z:Nat) (hz:z ∈ f13)=>HFF.out z (hm4 z hz)); clear hp13
  have hl4:(0:Int)<=(x[j].2.1.2.2.2.length:Nat):=Int.natCast_nonneg _
  have hm5:∀ z ∈ f3,z ∈ (f0++(([]++((([]++f11)++f9)++(([]++f15)++f13)))++f3)):=fun z hz=>(List.mem_append.2 (.inr (List.mem_append.2 (.inr hz))))
  have nb5:b ∉ f3:=fun h=>HBF.out (hm5 b h)
  have LP5_0:=Lib.hid hp3; have FR5_0:=Lib.hid (fun (z:Nat) (hz:z ∈ f3)=>HFF.out z (hm5 z hz)); clear hp3
  have hl5:(0:Int)<=(cnStepS x[j].2.2:Nat):=Int.natCast_nonneg _
  have hqe:=hq1; simp only [ecTour,ecPlacement,ecPoint,ecRat,ecBigInt] at hqe
  have hbl0:b < wr.heap.size:=hfr.lt
  have g0:wr.cell? ⟨b,off+j * 9,none⟩=some c0:=hcs 0 _ rfl
  have g1:wr.cell? ⟨b,off+j * 9+1,none⟩=some (Value.int .i64 x[j].2.1.1):=hcs 1 _ rfl
  have g2:wr.cell? ⟨b,off+j * 9+2,none⟩=some (Value.bool x[j].2.1.2.1.1.1):=hcs 2 _ rfl
  have g3:wr.cell? ⟨b,off+j * 9+3,none⟩=some c3:=hcs 3 _ rfl
  have g4:wr.cell? ⟨b,off+j * 9+4,none⟩=some c4:=hcs 4 _ rfl
  have g5:wr.cell? ⟨b,off+j * 9+5,none⟩=some (Value.bool x[j].2.1.2.2.1.1):=hcs 5 _ rfl
  have g6:wr.cell? ⟨b,off+j * 9+6,none⟩=some c6:=hcs 6 _ rfl
  have g7:wr.cell? ⟨b,off+j * 9+7,none⟩=some c7:=hcs 7 _ rfl
  have g8:wr.cell? ⟨b,off+j * 9+8,none⟩=some c8:=hcs 8 _ rfl
  have hfz:=hfr.frozen
  have HT0:=Lib.hid (Upto.refl (b :: (f0++(([]++((([]++f11)++f9)++(([]++f15)++f13)))++f3))) wr)
  clear hcs hfr
  go_wp2_with fail
  have hB0:Upto [b] wr _:=(Upto.refl [b] wr)
  refine (markVecS_any _ _ _ f0 _ (Rp.upto LP0_0.out hB0 (fun z hz hb=>nb0 (List.mem_singleton.1 hb ▸ hz))) nd0 (fun z hz=>(FR0_0.out z hz)) (by omega) (by omega)).mono ?_
  rintro e w1 ⟨v,rfl,rfl,hmm,hu1⟩
  have hbl1:b < w1.heap.size:=Nat.lt_of_lt_of_le (by simpa using hbl0) hu1.size
  have hcb1:=hu1.cell (b:=b) (by simpa using hbl0) nb0
  have hfb1:=hu1.frozen (b:=b) (by simpa using hbl0) nb0
  have HT1:=Lib.hid (HT0.out.trans (hu1.mono fun z hz=>List.mem_cons_of_mem _ (hm0 z hz))); clear HT0
  have HO1:=Lib.hid (fun (o:Nat) (ho:o < off+j * 9\/off+j * 9+9<=o)=>(hcb1 o).trans rfl);
  have LP0_1:=Lib.hid hmm; clear hmm LP0_0
  have LP1_1:=Lib.hid (Rp.upto (Rp.upto LP1_0.out hB0 (fun z hz hb=>nb1 (List.mem_singleton.1 hb ▸ hz))) hu1 (fun z hz hy=>dd0 z hy (List.mem_append.2 (.inl hz)))); clear LP1_0
  have FR1_1:=Lib.hid (fun (z:Nat) (hz:z ∈ f11)=>((FR1_0.out z hz)).frame (hu1.block z (Free.lt (FR1_0.out z hz)) ((fun z hz hy=>dd0 z hy (List.mem_append.2 (.inl hz))) z hz))); clear FR1_0
  have LP2_1:=Lib.hid (Rp.upto (Rp.upto LP2_0.out hB0 (fun z hz hb=>nb2 (List.mem_singleton.1 hb ▸ hz))) hu1 (fun z hz hy=>dd0 z hy (List.mem_append.2 (.inr (List.mem_append.2 (.inl hz)))))); clear LP2_0
  have FR2_1:=Lib.hid (fun (z:Nat) (hz:z ∈ f9)=>((FR2_0.out z hz)).frame (hu1.block z (Free.lt (FR2_0.out z hz)) ((fun z hz hy=>dd0 z hy (List.mem_append.2 (.inr (List.mem_append.2 (.inl hz))))) z hz))); clear FR2_0
  have LP3_1:=Lib.hid (Rp.upto (Rp.upto LP3_0.out hB0 (fun z hz hb=>nb3 (List.mem_singleton.1 hb ▸ hz))) hu1 (fun z hz hy=>dd0 z hy (List.mem_append.2 (.inr (List.mem_append.2 (.inr (List.mem_append.2 (.inl hz)))))))); clear LP3_0
  have FR3_1:=Lib.hid (fun (z:Nat) (hz:z ∈ f15)=>((FR3_0.out z hz)).frame (hu1.block z (Free.lt (FR3_0.out z hz)) ((fun z hz hy=>dd0 z hy (List.mem_append.2 (.inr (List.mem_append.2 (.inr (List.mem_append.2 (.inl hz))))))) z hz))); clear FR3_0
  have LP4_1:=Lib.hid (Rp.upto (Rp.upto LP4_0.out hB0 (fun z hz hb=>nb4 (List.mem_singleton.1 hb ▸ hz))) hu1 (fun z hz hy=>dd0 z hy (List.mem_append.2 (.inr (List.mem_append.2 (.inr (List.mem_append.2 (.inr (List.mem_append.2 (.inl hz)))))))))); clear LP4_0
  have FR4_1:=Lib.hid (fun (z:Nat) (hz:z ∈ f13)=>((FR4_0.out z hz)).frame (hu1.block z (Free.lt (FR4_0.out z hz)) ((fun z hz hy=>dd0 z hy (List.mem_append.2 (.inr (List.mem_append.2 (.inr (List.mem_append.2 (.inr (List.mem_append.2 (.inl hz))))))))) z hz))); clear FR4_0
  have LP5_1:=Lib.hid (Rp.upto (Rp.upto LP5_0.out hB0 (fun z hz hb=>nb5 (List.mem_singleton.1 hb ▸ hz))) hu1 (fun z hz hy=>dd0 z hy (List.mem_append.2 (.inr (List.mem_append.2 (.inr (List.mem_append.2 (.inr (List.mem_append.2 (.inr (hz))))))))))); clear LP5_0
  have FR5_1:=Lib.hid (fun (z:Nat) (hz:z ∈ f3)=>((FR5_0.out z hz)).frame (hu1.block z (Free.lt (FR5_0.out z hz)) ((fun z hz hy=>dd0 z hy (List.mem_append.2 (.inr (List.mem_append.2 (.inr (List.mem_append.2 (.inr (List.mem_append.2 (.inr (hz)))))))))) z hz))); clear FR5_0
  clear hu1 hB0 FR0_0
  go_wp2_with fail
  have hB1:Upto [b] w1 _:=(((Upto.refl [b] w1).setCell (p:=⟨b,off+j * 9+1,none⟩) List.mem_cons_self (Value.int .i64 (q+(cnVecS x[j].1:Nat)))).setCell (p:=⟨b,off+j * 9+2,none⟩) List.mem_cons_self (Value.bool ((q+(cnVecS x[j].1:Nat)+1) % 3 == 0)))
  refine (markIntS_any _ _ _ f11 _ (Rp.upto LP1_1.out hB1 (fun z hz hb=>nb1 (List.mem_singleton.1 hb ▸ hz))) nd1 (fun z hz=>(((FR1_1.out z hz).setCell _ _).setCell _ _)) (by omega) (by omega)).mono ?_
  rintro e w2 ⟨v,rfl,rfl,hmm,hu2⟩
  have hbl2:b < w2.heap.size:=Nat.lt_of_lt_of_le (by simpa using hbl1) hu2.size
  have hcb2:=hu2.cell (b:=b) (by simpa using hbl1) nb1
  have hfb2:=hu2.frozen (b:=b) (by simpa using hbl1) nb1
  have HT2:=Lib.hid (((HT1.out.setCell (p:=⟨b,off+j * 9+1,none⟩) List.mem_cons_self (Value.int .i64 (q+(cnVecS x[j].1:Nat)))).setCell (p:=⟨b,off+j * 9+2,none⟩) List.mem_cons_self (Value.bool ((q+(cnVecS x[j].1:Nat)+1) % 3 == 0))).trans (hu2.mono fun z hz=>List.mem_cons_of_mem _ (hm1 z hz))); clear HT1
  have HO2:=Lib.hid (fun (o:Nat) (ho:o < off+j * 9\/off+j * 9+9<=o)=>(hcb2 o).trans ((setCell_out (Value.bool ((q+(cnVecS x[j].1:Nat)+1) % 3 == 0)) (by omega)).trans ((setCell_out (Value.int .i64 (q+(cnVecS x[j].1:Nat))) (by omega)).trans (HO1.out o ho)))); clear HO1
  have LP0_2:=Lib.hid (Rp.upto (Rp.upto LP0_1.out hB1 (fun z hz hb=>nb0 (List.mem_singleton.1 hb ▸ hz))) hu2 (fun z hy hz=>dd0 z hy (List.mem_append.2 (.inl hz)))); clear LP0_1
  have LP1_2:=Lib.hid hmm; clear hmm LP1_1
  have LP2_2:=Lib.hid (Rp.upto (Rp.upto LP2_1.out hB1 (fun z hz hb=>nb2 (List.mem_singleton.1 hb ▸ hz))) hu2 (fun z hz hy=>dd1 z hy (List.mem_append.2 (.inl hz)))); clear LP2_1
  have FR2_2:=Lib.hid (fun (z:Nat) (hz:z ∈ f9)=>((((FR2_1.out z hz).setCell _ _).setCell _ _)).frame (hu2.block z (Free.lt (((FR2_1.out z hz).setCell _ _).setCell _ _)) ((fun z hz hy=>dd1 z hy (List.mem_append.2 (.inl hz))) z hz))); clear FR2_1
  have LP3_2:=Lib.hid (Rp.upto (Rp.upto LP3_1.out hB1 (fun z hz hb=>nb3 (List.mem_singleton.1 hb ▸ hz))) hu2 (fun z hz hy=>dd1 z hy (List.mem_append.2 (.inr (List.mem_append.2 (.inl hz)))))); clear LP3_1
  have FR3_2:=Lib.hid (fun (z:Nat) (hz:z ∈ f15)=>((((FR3_1.out z hz).setCell _ _).setCell _ _)).frame (hu2.block z (Free.lt (((FR3_1.out z hz).setCell _ _).setCell _ _)) ((fun z hz hy=>dd1 z hy (List.mem_append.2 (.inr (List.mem_append.2 (.inl hz))))) z hz))); clear FR3_1
  have LP4_2:=Lib.hid (Rp.upto (Rp.upto LP4_1.out hB1 (fun z hz hb=>nb4 (List.mem_singleton.1 hb ▸ hz))) hu2 (fun z hz hy=>dd1 z hy (List.mem_append.2 (.inr (List.mem_append.2 (.inr (List.mem_append.2 (.inl hz)))))))); clear LP4_1
  have FR4_2:=Lib.hid (fun (z:Nat) (hz:z ∈ f13)=>((((FR4_1.out z hz).setCell _ _).setCell _ _)).frame (hu2.block z (Free.lt (((FR4_1.out z hz).setCell _ _).setCell _ _)) ((fun z hz hy=>dd1 z hy (List.mem_append.2 (.inr (List.mem_append.2 (.inr (List.mem_append.2 (.inl hz))))))) z hz))); clear FR4_1
  have LP5_2:=Lib.hid (Rp.upto (Rp.upto LP5_1.out hB1 (fun z hz hb=>nb5 (List.mem_singleton.1 hb ▸ hz))) hu2 (fun z hz hy=>dd1 z hy (List.mem_append.2 (.inr (List.mem_append.2 (.inr (List.mem_append.2 (.inr (hz))))))))); clear LP5_1
  have FR5_2:=Lib.hid (fun (z:Nat) (hz:z ∈ f3)=>((((FR5_1.out z hz).setCell _ _).setCell _ _)).frame (hu2.block z (Free.lt (((FR5_1.out z hz).setCell _ _).setCell _ _)) ((fun z hz hy=>dd1 z hy (List.mem_append.2 (.inr (List.mem_append.2 (.inr (List.mem_append.2 (.inr (hz)))))))) z hz))); clear FR5_1
  clear hu2 hB1 FR1_1
  go_wp2_with fail
  have hB2:Upto [b] w2 _:=(Upto.refl [b] w2)
  refine (markIntS_any _ _ _ f9 _ (Rp.upto LP2_2.out hB2 (fun z hz hb=>nb2 (List.mem_singleton.1 hb ▸ hz))) nd2 (fun z hz=>(FR2_2.out z hz)) (by omega) (by omega)).mono ?_
  rintro e w3 ⟨v,rfl,rfl,hmm,hu3⟩
  have hbl3:b < w3.heap.size:=Nat.lt_of_lt_of_le (by simpa using hbl2) hu3.size
  have hcb3:=hu3.cell (b:=b) (by simpa using hbl2) nb2
  have hfb3:=hu3.frozen (b:=b) (by simpa using hbl2) nb2
  have HT3:=Lib.hid (HT2.out.trans (hu3.mono fun z hz=>List.mem_cons_of_mem _ (hm2 z hz))); clear HT2
  have HO3:=Lib.hid (fun (o:Nat) (ho:o < off+j * 9\/off+j * 9+9<=o)=>(hcb3 o).trans (HO2.out o ho)); clear HO2
  have LP0_3:=Lib.hid (Rp.upto (Rp.upto LP0_2.out hB2 (fun z hz hb=>nb0 (List.mem_singleton.1 hb ▸ hz))) hu3 (fun z hy hz=>dd0 z hy (List.mem_append.2 (.inr (List.mem_append.2 (.inl hz)))))); clear LP0_2
  have LP1_3:=Lib.hid (Rp.upto (Rp.upto LP1_2.out hB2 (fun z hz hb=>nb1 (List.mem_singleton.1 hb ▸ hz))) hu3 (fun z hy hz=>dd1 z hy (List.mem_append.2 (.inl hz)))); clear LP1_2
  have LP2_3:=Lib.hid hmm; clear hmm LP2_2
  have LP3_3:=Lib.hid (Rp.upto (Rp.upto LP3_2.out hB2 (fun z hz hb=>nb3 (List.mem_singleton.1 hb ▸ hz))) hu3 (fun z hz hy=>dd2 z hy (List.mem_append.2 (.inl hz)))); clear LP3_2
  have FR3_3:=Lib.hid (fun (z:Nat) (hz:z ∈ f15)=>((FR3_2.out z hz)).frame (hu3.block z (Free.lt (FR3_2.out z hz)) ((fun z hz hy=>dd2 z hy (List.mem_append.2 (.inl hz))) z hz))); clear FR3_2
  have LP4_3:=Lib.hid (Rp.upto (Rp.upto LP4_2.out hB2 (fun z hz hb=>nb4 (List.mem_singleton.1 hb ▸ hz))) hu3 (fun z hz hy=>dd2 z hy (List.mem_append.2 (.inr (List.mem_append.2 (.inl hz)))))); clear LP4_2
  have FR4_3:=Lib.hid (fun (z:Nat) (hz:z ∈ f13)=>((FR4_2.out z hz)).frame (hu3.block z (Free.lt (FR4_2.out z hz)) ((fun z hz hy=>dd2 z hy (List.mem_append.2 (.inr (List.mem_append.2 (.inl hz))))) z hz))); clear FR4_2
  have LP5_3:=Lib.hid (Rp.upto (Rp.upto LP5_2.out hB2 (fun z hz hb=>nb5 (List.mem_singleton.1 hb ▸ hz))) hu3 (fun z hz hy=>dd2 z hy (List.mem_append.2 (.inr (List.mem_append.2 (.inr (hz))))))); clear LP5_2
  have FR5_3:=Lib.hid (fun (z:Nat) (hz:z ∈ f3)=>((FR5_2.out z hz)).frame (hu3.block z (Free.lt (FR5_2.out z hz)) ((fun z hz hy=>dd2 z hy (List.mem_append.2 (.inr (List.mem_append.2 (.inr (hz)))))) z hz))); clear FR5_2
  clear hu3 hB2 FR2_2
  go_wp2_with fail
  have hB3:Upto [b] w3 _:=((Upto.refl [b] w3).setCell (p:=⟨b,off+j * 9+5,none⟩) List.mem_cons_self (Value.bool ((q+(cnVecS x[j].1:Nat)+1+1+(x[j].2.1.2.1.1.2.length:Nat)+(x[j].2.1.2.1.2.length:Nat)) % 3 == 0)))
  refine (markIntS_any _ _ _ f15 _ (Rp.upto LP3_3.out hB3 (fun z hz hb=>nb3 (List.mem_singleton.1 hb ▸ hz))) nd3 (fun z hz=>((FR3_3.out z hz).setCell _ _)) (by omega) (by omega)).mono ?_
  rintro e w4 ⟨v,rfl,rfl,hmm,hu4⟩
  have hbl4:b < w4.heap.size:=Nat.lt_of_lt_of_le (by simpa using hbl3) hu4.size
  have hcb4:=hu4.cell (b:=b) (by simpa using hbl3) nb3
  have hfb4:=hu4.frozen (b:=b) (by simpa using hbl3) nb3
  have HT4:=Lib.hid ((HT3.out.setCell (p:=⟨b,off+j * 9+5,none⟩) List.mem_cons_self (Value.bool ((q+(cnVecS x[j].1:Nat)+1+1+(x[j].2.1.2.1.1.2.length:Nat)+(x[j].2.1.2.1.2.length:Nat)) % 3 == 0))).trans (hu4.mono fun z hz=>List.mem_cons_of_mem _ (hm3 z hz))); clear HT3
  have HO4:=Lib.hid (fun (o:Nat) (ho:o < off+j * 9\/off+j * 9+9<=o)=>(hcb4 o).trans ((setCell_out (Value.bool ((q+(cnVecS x[j].1:Nat)+1+1+(x[j].2.1.2.1.1.2.length:Nat)+(x[j].2.1.2.1.2.length:Nat)) % 3 == 0)) (by omega)).trans (HO3.out o ho))); clear HO3
  have LP0_4:=Lib.hid (Rp.upto (Rp.upto LP0_3.out hB3 (fun z hz hb=>nb0 (List.mem_singleton.1 hb ▸ hz))) hu4 (fun z hy hz=>dd0 z hy (List.mem_append.2 (.inr (List.mem_append.2 (.inr (List.mem_append.2 (.inl hz)))))))); clear LP0_3
  have LP1_4:=Lib.hid (Rp.upto (Rp.upto LP1_3.out hB3 (fun z hz hb=>nb1 (List.mem_singleton.1 hb ▸ hz))) hu4 (fun z hy hz=>dd1 z hy (List.mem_append.2 (.inr (List.mem_append.2 (.inl hz)))))); clear LP1_3
  have LP2_4:=Lib.hid (Rp.upto (Rp.upto LP2_3.out hB3 (fun z hz hb=>nb2 (List.mem_singleton.1 hb ▸ hz))) hu4 (fun z hy hz=>dd2 z hy (List.mem_append.2 (.inl hz)))); clear LP2_3
  have LP3_4:=Lib.hid hmm; clear hmm LP3_3
  have LP4_4:=Lib.hid (Rp.upto (Rp.upto LP4_3.out hB3 (fun z hz hb=>nb4 (List.mem_singleton.1 hb ▸ hz))) hu4 (fun z hz hy=>dd3 z hy (List.mem_append.2 (.inl hz)))); clear LP4_3
  have FR4_4:=Lib.hid (fun (z:Nat) (hz:z ∈ f13)=>(((FR4_3.out z hz).setCell _ _)).frame (hu4.block z (Free.lt ((FR4_3.out z hz).setCell _ _)) ((fun z hz hy=>dd3 z hy (List.mem_append.2 (.inl hz))) z hz))); clear FR4_3
  have LP5_4:=Lib.hid (Rp.upto (Rp.upto LP5_3.out hB3 (fun z hz hb=>nb5 (List.mem_singleton.1 hb ▸ hz))) hu4 (fun z hz hy=>dd3 z hy (List.mem_append.2 (.inr (hz))))); clear LP5_3
  have FR5_4:=Lib.hid (fun (z:Nat) (hz:z ∈ f3)=>(((FR5_3.out z hz).setCell _ _)).frame (hu4.block z (Free.lt ((FR5_3.out z hz).setCell _ _)) ((fun z hz hy=>dd3 z hy (List.mem_append.2 (.inr (hz)))) z hz))); clear FR5_3
  clear hu4 hB3 FR3_3
  go_wp2_with fail
  have hB4:Upto [b] w4 _:=(Upto.refl [b] w4)
  refine (markIntS_any _ _ _ f13 _ (Rp.upto LP4_4.out hB4 (fun z hz hb=>nb4 (List.mem_singleton.1 hb ▸ hz))) nd4 (fun z hz=>(FR4_4.out z hz)) (by omega) (by omega)).mono ?_
  rintro e w5 ⟨v,rfl,rfl,hmm,hu5⟩
  have hbl5:b < w5.heap.size:=Nat.lt_of_lt_of_le (by simpa using hbl4) hu5.size
  have hcb5:=hu5.cell (b:=b) (by simpa using hbl4) nb4
  have hfb5:=hu5.frozen (b:=b) (by simpa using hbl4) nb4
  have HT5:=Lib.hid (HT4.out.trans (hu5.mono fun z hz=>List.mem_cons_of_mem _ (hm4 z hz))); clear HT4
  have HO5:=Lib.hid (fun (o:Nat) (ho:o < off+j * 9\/off+j * 9+9<=o)=>(hcb5 o).trans (HO4.out o ho)); clear HO4
  have LP0_5:=Lib.hid (Rp.upto (Rp.upto LP0_4.out hB4 (fun z hz hb=>nb0 (List.mem_singleton.1 hb ▸ hz))) hu5 (fun z hy hz=>dd0 z hy (List.mem_append.2 (.inr (List.mem_append.2 (.inr (List.mem_append.2 (.inr (List.mem_append.2 (.inl hz)))))))))); clear LP0_4
  have LP1_5:=Lib.hid (Rp.upto (Rp.upto LP1_4.out hB4 (fun z hz hb=>nb1 (List.mem_singleton.1 hb ▸ hz))) hu5 (fun z hy hz=>dd1 z hy (List.mem_append.2 (.inr (List.mem_append.2 (.inr (List.mem_append.2 (.inl hz)))))))); clear LP1_4
  have LP2_5:=Lib.hid (Rp.upto (Rp.upto LP2_4.out hB4 (fun z hz hb=>nb2 (List.mem_singleton.1 hb ▸ hz))) hu5 (fun z hy hz=>dd2 z hy (List.mem_append.2 (.inr (List.mem_append.2 (.inl hz)))))); clear LP2_4
  have LP3_5:=Lib.hid (Rp.upto (Rp.upto LP3_4.out hB4 (fun z hz hb=>nb3 (List.mem_singleton.1 hb ▸ hz))) hu5 (fun z hy hz=>dd3 z hy (List.mem_append.2 (.inl hz)))); clear LP3_4
  have LP4_5:=Lib.hid hmm; clear hmm LP4_4
  have LP5_5:=Lib.hid (Rp.upto (Rp.upto LP5_4.out hB4 (fun z hz hb=>nb5 (List.mem_singleton.1 hb ▸ hz))) hu5 (fun z hz hy=>dd4 z hy (hz))); clear LP5_4
  have FR5_5:=Lib.hid (fun (z:Nat) (hz:z ∈ f3)=>((FR5_4.out z hz)).frame (hu5.block z (Free.lt (FR5_4.out z hz)) ((fun z hz hy=>dd4 z hy (hz)) z hz))); clear FR5_4
  clear hu5 hB4 FR4_4
  go_wp2_with fail
  have hB5:Upto [b] w5 _:=(Upto.refl [b] w5)
  refine (markStepS_any _ _ _ f3 _ (Rp.upto LP5_5.out hB5 (fun z hz hb=>nb5 (List.mem_singleton.1 hb ▸ hz))) nd5 (fun z hz=>(FR5_5.out z hz)) (by omega) (by omega)).mono ?_
  rintro e w6 ⟨v,rfl,rfl,hmm,hu6⟩
  have hbl6:b < w6.heap.size:=Nat.lt_of_lt_of_le (by simpa using hbl5) hu6.size
  have hcb6:=hu6.cell (b:=b) (by simpa using hbl5) nb5
  have hfb6:=hu6.frozen (b:=b) (by simpa using hbl5) nb5
  have HT6:=Lib.hid (HT5.out.trans (hu6.mono fun z hz=>List.mem_cons_of_mem _ (hm5 z hz))); clear HT5
  have HO6:=Lib.hid (fun (o:Nat) (ho:o < off+j * 9\/off+j * 9+9<=o)=>(hcb6 o).trans (HO5.out o ho)); clear HO5
  have LP0_6:=Lib.hid (Rp.upto (Rp.upto LP0_5.out hB5 (fun z hz hb=>nb0 (List.mem_singleton.1 hb ▸ hz))) hu6 (fun z hy hz=>dd0 z hy (List.mem_append.2 (.inr (List.mem_append.2 (.inr (List.mem_append.2 (.inr (List.mem_append.2 (.inr (hz))))))))))); clear LP0_5
  have LP1_6:=Lib.hid (Rp.upto (Rp.upto LP1_5.out hB5 (fun z hz hb=>nb1 (List.mem_singleton.1 hb ▸ hz))) hu6 (fun z hy hz=>dd1 z hy (List.mem_append.2 (.inr (List.mem_append.2 (.inr (List.mem_append.2 (.inr (hz))))))))); clear LP1_5
  have LP2_6:=Lib.hid (Rp.upto (Rp.upto LP2_5.out hB5 (fun z hz hb=>nb2 (List.mem_singleton.1 hb ▸ hz))) hu6 (fun z hy hz=>dd2 z hy (List.mem_append.2 (.inr (List.mem_append.2 (.inr (hz))))))); clear LP2_5
  have LP3_6:=Lib.hid (Rp.upto (Rp.upto LP3_5.out hB5 (fun z hz hb=>nb3 (List.mem_singleton.1 hb ▸ hz))) hu6 (fun z hy hz=>dd3 z hy (List.mem_append.2 (.inr (hz))))); clear LP3_5
  have LP4_6:=Lib.hid (Rp.upto (Rp.upto LP4_5.out hB5 (fun z hz hb=>nb4 (List.mem_singleton.1 hb ▸ hz))) hu6 (fun z hy hz=>dd4 z hy (hz))); clear LP4_5
  have LP5_6:=Lib.hid hmm; clear hmm LP5_5
  clear hu6 hB5 FR5_5
  go_wp2
  go_roundw
  case rel =>
   have e0:w6.cell? ⟨b,off+j * 9,none⟩=some c0:=by simp [go_sem,hcb1,hcb2,hcb3,hcb4,hcb5,hcb6,g0]
   have e1:w6.cell? ⟨b,off+j * 9+1,none⟩=some (Value.int .i64 (q+(cnVecS x[j].1:Nat))):=by simp [go_sem,hcb1,hcb2,hcb3,hcb4,hcb5,hcb6,g1]
   have e2:w6.cell? ⟨b,off+j * 9+2,none⟩=some (Value.bool ((q+(cnVecS x[j].1:Nat)+1) % 3 == 0)):=by simp [go_sem,hcb1,hcb2,hcb3,hcb4,hcb5,hcb6,g2]
   have e3:w6.cell? ⟨b,off+j * 9+3,none⟩=some c3:=by simp [go_sem,hcb1,hcb2,hcb3,hcb4,hcb5,hcb6,g3]
   have e4:w6.cell? ⟨b,off+j * 9+4,none⟩=some c4:=by simp [go_sem,hcb1,hcb2,hcb3,hcb4,hcb5,hcb6,g4]
   have e5:w6.cell? ⟨b,off+j * 9+5,none⟩=some (Value.bool ((q+(cnVecS x[j].1:Nat)+1+1+(x[j].2.1.2.1.1.2.length:Nat)+(x[j].2.1.2.1.2.length:Nat)) % 3 == 0)):=by simp [go_sem,hcb1,hcb2,hcb3,hcb4,hcb5,hcb6,g5]
   have e6:w6.cell? ⟨b,off+j * 9+6,none⟩=some c6:=by simp [go_sem,hcb1,hcb2,hcb3,hcb4,hcb5,hcb6,g6]
   have e7:w6.cell? ⟨b,off+j * 9+7,none⟩=some c7:=by simp [go_sem,hcb1,hcb2,hcb3,hcb4,hcb5,hcb6,g7]
   have e8:w6.cell? ⟨b,off+j * 9+8,none⟩=some c8:=by simp [go_sem,hcb1,hcb2,hcb3,hcb4,hcb5,hcb6,g8]
   have hup:=HEr.out.update (w':=w6) (x':=emTour x[j] q) (cs':=[c0,(Value.int .i64 (q+(cnVecS x[j].1:Nat))),(Value.bool ((q+(cnVecS x[j].1:Nat)+1) % 3 == 0)),c3,c4,(Value.bool ((q+(cnVecS x[j].1:Nat)+1+1+(x[j].2.1.2.1.1.2.length:Nat)+(x[j].2.1.2.1.2.length:Nat)) % 3 == 0)),c6,c7,c8]) HN.out HFJ.out (rep_pair (rep_cast LP0_6.out (congrArg (mkVecS _) (by first|rfl|(simp only [ecTour,ecPlacement,ecPoint,ecRat,ecBigInt]; omega)))) (rep_pair (rep_pair (rep_int [] (by first|rfl|(simp only [ecTour,ecPlacement,ecPoint,ecRat,ecBigInt]; omega)) (by constructor<;>omega)) (rep_pair (rep_pair (rep_pair (rep_bool [] (by first|rfl|(simp only [ecTour,ecPlacement,ecPoint,ecRat,ecBigInt]; omega))) (rep_cast LP1_6.out (congrArg (mkIntS _) (by first|rfl|(simp only [ecTour,ecPlacement,ecPoint,ecRat,ecBigInt]; omega))))) (rep_cast LP2_6.out (congrArg (mkIntS _) (by first|rfl|(simp only [ecTour,ecPlacement,ecPoint,ecRat,ecBigInt]; omega))))) (rep_pair (rep_pair (rep_bool [] (by first|rfl|(simp only [ecTour,ecPlacement,ecPoint,ecRat,ecBigInt]; omega))) (rep_cast LP3_6.out (congrArg (mkIntS _) (by first|rfl|(simp only [ecTour,ecPlacement,ecPoint,ecRat,ecBigInt]; omega))))) (rep_cast LP4_6.out (congrArg (mkIntS _) (by first|rfl|(simp only [ecTour,ecPlacement,ecPoint,ecRat,ecBigInt]; omega))))))) (rep_cast LP5_6.out (congrArg (mkStepS _) (by first|rfl|(simp only [ecTour,ecPlacement,ecPoint,ecRat,ecBigInt]; omega)))))) (cells_cons e0 (cells_cons e1 (cells_cons e2 (cells_cons e3 (cells_cons e4 (cells_cons e5 (cells_cons e6 (cells_cons e7 (cells_cons e8 cells_nil)))))))))
    (fun z hz hzb hzf=>(HT6.out).block z hz (by rw [List.mem_cons]; exact fun h=>h.elim hzb hzf))
    (fun o ho=>have ho:o < off+j * 9\/off+j * 9+9<=o:=by have h1:(j+1) * 9=j * 9+9:=Nat.succ_mul _ _; have h2:o < off+j * 9\/off+(j+1) * 9<=o:=ho; omega
     (HO6.out o ho))
   have e:(mkTourS (x.take j) k++x.drop j).set j (emTour x[j] q)=mkTourS (x.take (j+1)) k++x.drop (j+1):=by
    rw [List.set_append_right _ _ (by rw [HML.out]; exact Nat.le_refl _),HML.out,Nat.sub_self,List.drop_eq_getElem_cons hjl,List.set_cons_zero,List.take_succ_eq_append_getElem hjl,mkTourS_snoc,<-HQ.out]
    simp
   rw [e] at hup
   refine ⟨j+1,by omega,by go_num,congrArg (Value.int .i64) ?_,hup,HU.out.trans ((HT6.out).mono ?_)⟩
   ·have h1:=HQ.out; have h2:=HEC.out; simp only [ecTour,ecPlacement,ecPoint,ecRat,ecBigInt] at h2; omega
   ·intro z hz; rcases List.mem_cons.1 hz with rfl|hz; exact List.mem_cons_self; exact List.mem_cons_of_mem _ (flat_mem HFJ.out z hz)
  case measure=>simp [intOf]; omega
theorem cnTourS_le (x:DTourS):cnTourS x<=3 * (x.length+tTourS x):=by
 induction x with
 | nil=>exact Nat.zero_le _
 | cons y l ih =>
  have h1:=DW.cnVecS_le y.1
  have h2:=cnPlacement_le y.2.1
  have h3:=cnStepS_le y.2.2
  have e:cnTourS (y :: l)=ecTour y+cnTourS l:=rfl
  have e2:tTourS (y :: l)=tTour y+tTourS l:=rfl
  have h4:ecPlacement y.2.1<=3+3 * tPlacement y.2.1:=by unfold ecPlacement tPlacement; (try unfold ecPoint tPoint ecRat tRat ecBigInt tBigInt); omega
  rw [e,e2,List.length_cons]
  unfold ecTour tTour
  omega
namespace DW
theorem markTourS_fn (x:DTourS) (k:Int) (h0:0<=k) (h1:k+cnTourS x<=1073741824):FnM Tryz.prog 26 (.slice DW.tTour) x (mkTourS x k) k (k+cnTourS x):=by
 refine FnM.of (enters Tryz.func26 rfl rfl) (small_I64 (by omega) h1) fun w v cs fp hp hx hn hf=>?_
 obtain rfl:=pk_one rfl hp
 exact markTourS_any _ x k fp w hx hn hf h0 h1
end DW
section
variable {H:Type} {enc:TypeId × Value->H} {w:World} {P:Program}
theorem Opens.prod3 {α β γ:Type} {t:TypeId} {A:Rp α} {B:Rp β} {C:Rp γ} {f0 f1 f2:Field} (ht:P.underlying t=some (.struct #[f0,f1,f2])) (o0:f0.offset=0) (o1:f1.offset=A.size) (o2:f2.offset=A.size+B.size)
  (s0:P.cellsOf f0.type=A.size) (s1:P.cellsOf f1.type=B.size) (s2:P.cellsOf f2.type=C.size) (s:P.cellsOf t=A.size+(B.size+C.size)) (h0:Opens enc P w f0.type A) (h1:Opens enc P w f1.type B) (h2:Opens enc P w f2.type C):Opens enc P w t (Rp.prod A (Rp.prod B C)):=fun fuel cs x h=>by
 obtain ⟨xs,n,_,_,hl,hxl,hf⟩:=DataW.trod_struct ht h
 have e0:=hf 0 f0 rfl
 have e1:=hf 1 f1 rfl
 have e2:=hf 2 f2 rfl
 have hxl':xs.length=3:=hxl
 rw [o0,s0,List.getElem?_eq_getElem (by omega)] at e0
 rw [o1,s1,List.getElem?_eq_getElem (by omega)] at e1
 rw [o2,s2,List.getElem?_eq_getElem (by omega)] at e2
 obtain ⟨a,fa,ra⟩:=h0 _ _ _ e0
 obtain ⟨b,fb,rb⟩:=h1 _ _ _ e1
 obtain ⟨c,fc,rc⟩:=h2 _ _ _ e2
 refine ⟨(a,b,c),fa++(fb++fc),_,cs.drop A.size,fa,fb++fc,?_,rfl,ra,_,_,fb,fc,?_,rfl,rb,rc⟩
 ·rw [List.drop_zero,List.take_append_drop]
 ·rw [<-List.drop_drop,List.take_of_length_le (show ((cs.drop A.size).drop B.size).length<=C.size by simp; omega),List.take_append_drop]
theorem oVec:Opens enc Tryz.prog w 165 RVec:=Opens.prod Tryz.underlying165 rfl rfl (by kernel_rfl) (by kernel_rfl) (by kernel_rfl) oInt oInt
theorem oVecS:Opens enc Tryz.prog w 83 RVecS:=Opens.slice Tryz.underlying83 (by kernel_rfl) oVec
theorem oTour:Opens enc Tryz.prog w 93 RTour:=Opens.prod3 Tryz.underlying93 rfl rfl rfl (by kernel_rfl) (by kernel_rfl) (by kernel_rfl) (by kernel_rfl) oVecS oPlacement oStepS
theorem oTourS:Opens enc Tryz.prog w 45 (Rp.slice RTour (by decide)):=Opens.slice Tryz.underlying45 (by kernel_rfl) oTour
end
end Go.Proofs.YtbnkojgcbmfloaaGreat

namespace Go.Proofs.YtbnkojgcbmfloaaGreat.DW
open Go.RowKit
theorem crd_len (l:List DT):(crdL l).length<=3145728:=by
 unfold crdL
 split
 ·rename_i h
  have hc:crdP l:=by
   by_cases hc:crdP l
   ·exact hc
   ·rw [bdec_f hc] at h; cases h
  have har:=arB_p hc.1
  have hs0:=stP_zero l
  obtain ⟨t,h1,_⟩:=coo_sch (remN l (st0 l)) hs0 hc.2 (Nat.le_refl _)
  have h2:t.sum=(st0 l).sum+(coo l (remN l (st0 l)) (st0 l)).length:=sch_sum hs0 h1
  have h3:=sum_24 har.2 har.1.2 ((sch_rea h1).val hs0)
  have h4:0<=(st0 l).sum/\(st0 l).sum<=24:=sum_24 har.2 har.1.2 hs0
  have h5:(coo l (remN l (st0 l)) (st0 l)).length<=3145728:=by omega
  exact h5
 ·exact Nat.zero_le _
set_option maxHeartbeats 8000000 in
theorem lawCoordinate_fn (x0:DTourS):Fn Tryz.prog 8 [⟨.slice DW.tTour,x0⟩] false [⟨.bool,true⟩]:=by
 refine fe Tryz.func8 Tryz.ntmps8 Tryz.results8 fun hwf=>?_
 try simp (maxSteps:=9^9) only[go_sem]
 repeat refine AI ?_
 refine cw (szTourS_fn x0 1048576 (by omega) (by omega)) ?_
 try simp (maxSteps:=9^9) only[go_sem]
 repeat refine AI ?_
 have hr0:=szr_lo 1048576 ((x0.length+Go.Proofs.YtbnkojgcbmfloaaGreat.tTourS x0)) (by omega)
 refine CondW_dec (fun hlt=>?_) (fun hge0=>?_)
 ·try simp (maxSteps:=9^9) only[go_sem]
 have hge0':0<=szr 1048576 ((x0.length+Go.Proofs.YtbnkojgcbmfloaaGreat.tTourS x0)):=by omega
 have hs0:=(szr_ok hge0').1
 have hle0:(x0.length+Go.Proofs.YtbnkojgcbmfloaaGreat.tTourS x0)<=1048576:=by omega
 clear hr0 hs0 hge0 hge0'
 try simp (maxSteps:=9^9) only[go_sem]
 repeat refine AI ?_
 refine cw (toTourS_fn x0 hle0) ?_
 try simp (maxSteps:=9^9) only[go_sem]
 repeat refine AI ?_
 refine CallW.t (CoordinateS_fn x0) ?_
 try simp (maxSteps:=9^9) only[go_sem]
 repeat refine AI ?_
 refine CallW.mx (toTourS_fn x0 hle0) ?_
 try simp (maxSteps:=9^9) only[go_sem]
 repeat refine AI ?_
 refine CallW.t (CoordinateI_fn x0) ?_
 try simp (maxSteps:=9^9) only[go_sem]
 repeat refine AI ?_
 refine CallW.mx (eqIntS_fn (crdL x0) (crdL x0)) ?_
 try simp (maxSteps:=9^9) only[go_sem]
 repeat refine AI ?_
 refine cw (toTourS_fn x0 hle0) ?_
 try simp (maxSteps:=9^9) only[go_sem]
 repeat refine AI ?_
 refine CallW.mx (eqTourS_fn x0 x0) ?_
 try simp (maxSteps:=9^9) only[go_sem]
 have hc0:Go.Proofs.YtbnkojgcbmfloaaGreat.cnTourS x0<=3145728:=by have:=Go.Proofs.YtbnkojgcbmfloaaGreat.cnTourS_le x0; omega
 repeat refine AI ?_
 refine CallW.m (markTourS_fn x0 1 (by omega) (by omega)) ?_
 try simp (maxSteps:=9^9) only[go_sem]
 have hkf:decide ((1:Int)+(Go.Proofs.YtbnkojgcbmfloaaGreat.cnTourS x0:Int) < 0)=false:=decide_eq_false (by omega)
 try simp (maxSteps:=9^9) only[go_sem,hkf]
 repeat refine AI ?_
 refine CallW.mx (eqIntS_fn (crdL x0) (crdL x0)) ?_
 try simp (maxSteps:=9^9) only[go_sem]
 have hcg:=crd_len x0
 repeat refine AI ?_
 refine CallW.m (markIntS_fn (crdL x0) 1 (by omega) (by omega)) ?_
 try simp (maxSteps:=9^9) only[go_sem]
 repeat refine AI ?_
 refine CallW.mx (heldIntS_fn (crdL x0) 1 (by omega) (by omega)) ?_
 try simp (maxSteps:=9^9) only[go_sem]
 repeat refine AI ?_
 refine CondW_dec (fun hlt=>absurd hlt (by omega)) (fun _=>?_)
 try simp (maxSteps:=9^9) only[go_sem]
 repeat refine AI ?_
 refine cw (toTourS_fn x0 hle0) ?_
 try simp (maxSteps:=9^9) only[go_sem]
 repeat refine AI ?_
 refine CallW.t (CoordinateI_fn x0) ?_
 try simp (maxSteps:=9^9) only[go_sem]
 repeat refine AI ?_
 refine CallW.mx (eqIntS_fn (crdL x0) (crdL x0)) ?_
 try simp (maxSteps:=9^9) only[go_sem]
 repeat refine AI ?_
 refine CallW.mx (heldIntS_fn (crdL x0) 1 (by omega) (by omega)) ?_
 try simp (maxSteps:=9^9) only[go_sem]
 repeat refine AI ?_
 refine CondW_dec (fun hlt=>absurd hlt (by omega)) (fun _=>?_)
 try simp (maxSteps:=9^9) only[go_sem]
end Go.Proofs.YtbnkojgcbmfloaaGreat.DW
namespace Go.Proofs.YtbnkojgcbmfloaaGreat
open Go.RowKit DW
theorem law_FnExactCoordinate (a0:Value) (x0:DTourS) (w:World) (hx0:Has RTourS w [a0] x0) :
  Calls Tryz.prog 8 #[a0] w (Post fun r w'=>r=.bool true/\Below w.heap.size w w') :=
 (DW.lawCoordinate_fn x0).bool (vs:=[a0]) ⟨Arg.sl hx0,trivial⟩
end Go.Proofs.YtbnkojgcbmfloaaGreat
