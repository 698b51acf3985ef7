/-
  Texts of a proof, one behind another: Dw140, Dw141, Dw82, Dw144, LawClearance.
-/
import Derived.Test.YtbopoblkoainjaaGreatKKCl5
set_option linter.all false
set_option maxRecDepth 100000
namespace Go.Proofs.YtbopoblkoainjaaGreat.DW
open Go.RowKit
variable {code:List Int}
def adV (v u:DV):DV:=(u.1+v.1,u.2+v.2)
theorem trn_ad (v a b c:DV):trn (adV v a) (adV v b) (adV v c)=trn a b c:=by
 unfold trn adV
 simp only
 rw [show b.1+v.1 - (a.1+v.1)=b.1 - a.1 by omega,show c.2+v.2 - (a.2+v.2)=c.2 - a.2 by omega,show b.2+v.2 - (a.2+v.2)=b.2 - a.2 by omega,show c.1+v.1 - (a.1+v.1)=c.1 - a.1 by omega]
theorem SmP.move {l:List DV} (h:SmP 20 l) {v:DV} (hv:inB 100 v=true):SmP 200 (l.map (adV v)):=by
 obtain ⟨b1,b2,b3,b4⟩:=inB_b hv
 have hin:∀ u ∈ l,inB 200 (adV v u)=true:=fun u hu=>by
  obtain ⟨a1,a2,a3,a4⟩:=inB_b (h.ins u hu)
  exact inB_of (by show -200<=_+_; omega) (by show _+_<=(200:Int); omega) (by show -200<=_+_; omega) (by show _+_<=(200:Int); omega)
 refine ⟨by rw [List.length_map]; exact h.five,poly_map h.poly (fun u hu=>?_) (trn_ad v),fun u hu=>?_⟩
 ·obtain ⟨a1,a2,a3,a4⟩:=inB_b (hin u hu)
  exact okV_of (by omega) (by omega) (by omega) (by omega)
 ·obtain ⟨w,hw,rfl⟩:=List.mem_map.1 hu
  exact hin w hw
theorem smB_of {l:List DV} {k:Int} (h:SmP k l):smB l k=true:=by
 unfold smB allIn
 rw [Bool.and_eq_true,Bool.and_eq_true,Bool.not_eq_true',List.any_eq_false]
 have:=h.five
 exact ⟨decide_eq_true (by omega),polyB_t h.poly,fun v hv=>by rw [h.ins v hv]; decide⟩
theorem sceneB_of {s:DSc} (h:ScP s):sceneB s=true:=by
 unfold sceneB obsOK allIn
 simp only [Bool.and_eq_true]
 have h1:=h.nobs
 have h2:=h.ntab
 refine ⟨?_,decide_eq_true h.lx,decide_eq_true h.ly,smB_of h.rob,decide_eq_true (by omega),?_,decide_eq_true (by omega),?_⟩
 ·rw [Bool.not_eq_true',List.any_eq_false]
  intro v hv
  rcases List.mem_cons.1 hv with rfl|hv
  ·rw [h.low]; decide
  ·rw [List.mem_singleton.1 hv,h.high]; decide
 ·rw [Bool.not_eq_true',List.any_eq_false]
  intro l hl
  rw [smB_of (h.obs l hl)]; decide
 ·rw [Bool.not_eq_true',List.any_eq_false]
  intro v hv
  rw [h.tabs v hv]; decide
noncomputable def obC (c:Cu code):Nat->Cu code
 | 0=>c
 | k+1=>(pgD (obC c k) 4 8).2.next.next
noncomputable def obX (c:Cu code):List DV:=(pgD c 4 8).1.map (adV (4+(pgD c 4 8).2.below 16,3+(pgD c 4 8).2.next.below 12))
noncomputable def obL (c:Cu code):Nat->List (List DV)
 | 0=>[]
 | k+1=>obL c k++[obX (obC c k)]
theorem obL_len (c:Cu code):∀ k,(obL c k).length=k
 | 0=>rfl
 | k+1=>by rw [obL,List.length_append,obL_len c k]; rfl
theorem obV_b (c:Cu code):inB 100 (4+(pgD c 4 8).2.below 16,3+(pgD c 4 8).2.next.below 12)=true:=by
 have h1:=(pgD c 4 8).2.below_rng (n:=16) (by decide)
 have h2:=(pgD c 4 8).2.next.below_rng (n:=12) (by decide)
 exact inB_of (by show -100<=4+_; omega) (by show 4+_<=(100:Int); omega) (by show -100<=3+_; omega) (by show 3+_<=(100:Int); omega)
theorem obX_ok (c:Cu code):SmP 200 (obX c):=(smB_p (pgD_ok 4 (by decide) 8 c)).move (obV_b c)
theorem obL_ok (c:Cu code):∀ k,∀ l ∈ obL c k,SmP 200 l
 | 0=>fun l hl=>by cases hl
 | k+1=>fun l hl=>by
  rw [obL,List.mem_append,List.mem_singleton] at hl
  rcases hl with hl|rfl
  ·exact obL_ok c k l hl
  ·exact obX_ok _
def rcX (x:Int):List DV:=[(x,-1),(x+2,-1),(x+2,40),(x,40)]
def tbC (c:Cu code):Nat->Cu code
 | 0=>c
 | k+1=>(tbC c k).next.next
def tbL (c:Cu code):Nat->List DV
 | 0=>[]
 | k+1=>tbL c k++[(3+(tbC c k).below 18,3+(tbC c k).next.below 14)]
theorem tbL_len (c:Cu code):∀ k,(tbL c k).length=k
 | 0=>rfl
 | k+1=>by rw [tbL,List.length_append,tbL_len c k]; rfl
theorem tbL_ok (c:Cu code):∀ k,∀ v ∈ tbL c k,inB 200 v=true
 | 0=>fun v hv=>by cases hv
 | k+1=>fun v hv=>by
  rw [tbL,List.mem_append,List.mem_singleton] at hv
  rcases hv with hv|rfl
  ·exact tbL_ok c k v hv
  ·have h1:=(tbC c k).below_rng (n:=18) (by decide)
   have h2:=(tbC c k).next.below_rng (n:=14) (by decide)
   exact inB_of (by show -200<=3+_; omega) (by show 3+_<=(200:Int); omega) (by show -200<=3+_; omega) (by show 3+_<=(200:Int); omega)
theorem rc0:polyP (rcX 0):=by
 refine ⟨by decide,?_,?_⟩
 ·intro v hv
  simp only [rcX,List.mem_cons,List.not_mem_nil,or_false] at hv
  rcases hv with rfl|rfl|rfl|rfl<;>decide
 ·intro i k hi hk
  have hi:i < 4:=hi
  have hk:k < 4:=hk
  unfold cornOK
  obtain rfl|rfl|rfl|rfl:i=0\/i=1\/i=2\/i=3:=by omega
  all_goals
   obtain rfl|rfl|rfl|rfl:k=0\/k=1\/k=2\/k=3:=by omega
   all_goals decide
theorem rcX_eq (x:Int):rcX x=(rcX 0).map (adV (x,0)):=by
 simp only [rcX,adV,List.map_cons,List.map_nil]
 simp only [Int.add_zero,Int.zero_add,Int.add_comm 2 x]
theorem rcX_ok {x:Int} (h:0<=x/\x<=20):SmP 200 (rcX x):=by
 have hin:∀ v ∈ rcX x,inB 200 v=true:=by
  intro v hv
  simp only [rcX,List.mem_cons,List.not_mem_nil,or_false] at hv
  rcases hv with rfl|rfl|rfl|rfl<;>exact inB_of (by simp only; omega) (by simp only; omega) (by simp only; omega) (by simp only; omega)
 refine ⟨show 4<=5 by decide,?_,hin⟩
 rw [rcX_eq] at hin ⊢
 exact poly_map rc0 (fun v hv=>by
  obtain ⟨b1,b2,b3,b4⟩:=inB_b (hin _ (List.mem_map.2 ⟨v,hv,rfl⟩))
  exact okV_of (by omega) (by omega) (by omega) (by omega)) (trn_ad _)
def mvI (l:List DV) (v:DV) (i:Nat):List DV:=(l.take i).map (adV v)
theorem mvI_step {l:List DV} {v:DV} {i:Nat} (h:i < l.length):mvI l v (i+1)=mvI l v i++[adV v (nth (t:=tVec) l i)]:=by
 unfold mvI
 rw [List.take_succ_eq_append_getElem h,nth_lt h,List.map_append]
 rfl
theorem mvI_len {l:List DV} {v:DV} {i:Nat} (h:i<=l.length):(mvI l v i).length=i:=by
 unfold mvI
 rw [List.length_map,List.length_take]; omega
theorem mvI_all {l:List DV} {v:DV} {i:Nat} (h:l.length<=i):mvI l v i=l.map (adV v):=by
 unfold mvI
 rw [List.take_of_length_le h]
theorem movePolygonS_fn (l:List DV) (v:DV) (hl:l.length<=16) (hv:okV v=true) (h:∀ u ∈ l,okV u=true/\okV (adV v u)=true):Fn Tryz.prog 42 [⟨.slice tVec,l⟩,⟨tVec,v⟩] true [⟨.slice tVec,l.map (adV v)⟩]:=by
 have c1:=IsValidVec_fn v
 rw [hv] at c1
 refine fe Tryz.func42 Tryz.ntmps42 Tryz.results42 fun hwf=>?_
 try simp (maxSteps:=9^9) only[go_sem]
 repeat refine AI ?_
 refine cw c1 ?_
 try simp (maxSteps:=9^9) only[go_sem]
 refine LoopG.intro _ _ _ (fun i:Nat=>⟨[(0,.sl tVec l),(3,.ptr 0 0),(5,.row 1 0),(12,.sl tVec l),(13,.sc (.int .i64 l.length)),(14,.sc (.int .i64 i))],[(1,.row 24 tVec 0 true (mvI l v i)),(0,.box [.sc (.int .i64 v.1),.sc (.int .i64 v.2)])]⟩) (fun i=>i<=l.length) (fun i=>l.length - i) 0 ?_ (Nat.zero_le _) ?_
 ·refine Wk.mk [] ?_
  try simp (maxSteps:=9^9) only[go_sem]
  try (and_intros<;>first|rfl|omega|exact ⟨_,rfl⟩)
  all_goals (first|exact ⟨rfl,rfl⟩|rfl)
 ·rintro i hi
  try simp (maxSteps:=9^9) only[go_sem]
  refine CondW_dec (fun hA=>?_) (fun hA=>?_)
  ·have hlt:i < l.length:=by omega
   have hml:=mvI_len (l:=l) (v:=v) (i:=i) (by omega)
   have e:=mvI_step (v:=v) hlt
   obtain ⟨h1,h2⟩:=h _ (nth_mem hlt)
   have c2:=IsValidVec_fn (nth (t:=tVec) l i)
   have c3:=IsValidVec_fn (adV v (nth (t:=tVec) l i))
   rw [h1] at c2
   rw [h2] at c3
   obtain ⟨a1,a2,a3,a4⟩:=inB_b h1
   obtain ⟨b1,b2,b3,b4⟩:=inB_b hv
   unfold adV at c3 e
   try simp (maxSteps:=9^9) only[go_sem]
   repeat refine AI ?_
   repeat refine AI ?_
   refine cw c2 ?_
   try simp (maxSteps:=9^9) only[go_sem]
   repeat refine AI ?_
   repeat refine AI ?_
   refine cw c3 ?_
   try simp (maxSteps:=9^9) only[go_sem]
   try simp (maxSteps:=9^9) only[go_sem,hml]
   repeat refine AI ?_
   refine LoopK.mk (i+1) ?_ (by omega) (by omega)
   rw [e]
   refine Wk.mk [] ?_
   try simp (maxSteps:=9^9) only[go_sem]
   try (and_intros<;>first|rfl|omega|exact ⟨_,rfl⟩)
   all_goals (first|exact ⟨by omega,rfl⟩|exact ⟨rfl,rfl⟩)
  ·rw [<-mvI_all (l:=l) (v:=v) (i:=i) (by omega)]
   try simp (maxSteps:=9^9) only[go_sem]
   all_goals repeat refine AI ?_
   all_goals first|kernel_rfl|omega|rfl
variable {code:List Int}
noncomputable def skO (C:Cu code) (N:Nat):List (List DV):=obL C N++(if (obC C N).below 6=0 then [rcX (6+(obC C N).next.below 8)] else [])
noncomputable def skC (C:Cu code) (N:Nat):Cu code:=if (obC C N).below 6=0 then (obC C N).next.next else (obC C N).next
noncomputable def skM (C:Cu code) (N:Nat):Nat:=((skC C N).below 3).toNat
noncomputable def scR (c:Cu code):List DV × Cu code:=pgD c.next.next 2 8
noncomputable def scN (c:Cu code):Nat:=((scR c).2.below 3).toNat
noncomputable def scD (c:Cu code):DSc:=((0,0),(14+c.below 12,12+c.next.below 10),(scR c).1,skO (scR c).2.next (scN c),tbL (skC (scR c).2.next (scN c)).next (skM (scR c).2.next (scN c)))
noncomputable def scE (c:Cu code):Cu code:=tbC (skC (scR c).2.next (scN c)).next (skM (scR c).2.next (scN c))
theorem scD_ok (c:Cu code):sceneB (scD c)=true:=by
 have h1:=c.below_rng (n:=12) (by decide)
 have h2:=c.next.below_rng (n:=10) (by decide)
 have h3:=(scR c).2.below_rng (n:=3) (by decide)
 have h4:=(skC (scR c).2.next (scN c)).below_rng (n:=3) (by decide)
 have h5:=(obC (scR c).2.next (scN c)).next.below_rng (n:=8) (by decide)
 refine sceneB_of ⟨show inB 200 ((0:Int),(0:Int))=true by decide,inB_of ?_ ?_ ?_ ?_,smB_p (pgD_ok 2 (by decide) 8 _),?_,?_,?_,tbL_ok _ _,?_,?_⟩
 ·show -200<=14+_; omega
 ·show 14+_<=(200:Int); omega
 ·show -200<=12+_; omega
 ·show 12+_<=(200:Int); omega
 ·intro l hl
  rcases List.mem_append.1 (show l ∈ obL _ _++_ from hl) with hl|hl
  ·exact obL_ok _ _ l hl
  ·split at hl
   ·rw [List.mem_singleton.1 hl]
    exact rcX_ok ⟨by omega,by omega⟩
   ·cases hl
 ·show (obL _ _++_).length<=4
  have hN:scN c<=2:=by unfold scN; omega
  rw [List.length_append,obL_len]
  split
  ·rw [List.length_singleton]; omega
  ·rw [List.length_nil]; omega
 ·show (tbL _ _).length<=3
  rw [tbL_len]
  unfold skM; omega
 ·show (0:Int) < 14+_; omega
 ·show (0:Int) < 12+_; omega
theorem moveDraw_fn (c:Cu code):Fn Tryz.prog 42 [⟨.slice tVec,(pgD c 4 8).1⟩,⟨tVec,(4+(pgD c 4 8).2.below 16,3+(pgD c 4 8).2.next.below 12)⟩] true [⟨.slice tVec,obX c⟩]:=by
 have h:=smB_p (pgD_ok 4 (by decide) 8 c)
 obtain ⟨v1,v2,v3,v4⟩:=inB_b (obV_b c)
 have h5:=h.five
 refine movePolygonS_fn _ _ (by omega) (inB_of (by omega) (by omega) (by omega) (by omega)) fun u hu=>?_
 obtain ⟨a1,a2,a3,a4⟩:=inB_b (h.ins u hu)
 refine ⟨inB_of (by omega) (by omega) (by omega) (by omega),inB_of ?_ ?_ ?_ ?_⟩
 all_goals (unfold adV; simp only; omega)
set_option maxHeartbeats 8000000 in
theorem l10Draw_fn (hc:code.length<=1048576) (c:Cu code):Dr 16 c (scE c) [] true ⟨tScene,scD c⟩:=by
 have b1:=c.below_rng (n:=12) (by decide)
 have b2:=c.next.below_rng (n:=10) (by decide)
 have c1:=l01Below_fn hc c 12 (by decide)
 have c2:=l01Below_fn hc c.next 10 (by decide)
 have c3:=l06Draw_fn hc c.next.next 2 (by decide)
 have c4:=l01Below_fn hc (scR c).2 3 (by decide)
 have rN:=(scR c).2.below_rng (n:=3) (by decide)
 have eN:(scR c).2.below 3=(scN c:Int):=by unfold scN; omega
 rw [eN] at c4 rN
 rw [show pgD c.next.next 2 8=scR c from rfl] at c3
 unfold scD scE
 generalize (scR c).1=R at *
 generalize (scR c).2.next=C at *
 generalize scN c=N at *
 generalize c.below 12=H1 at *
 generalize c.next.below 10=H2 at *
 refine fnC_enter tabOK mixes Tryz.func16 rfl rfl _ Tryz.ntmps16 _ Tryz.results16 (by simp) (cz_ok hc _) (cz_one _) fun b u0 hwl hzs hwf=>?_
 try simp (maxSteps:=9^9) only[go_sem]
 repeat refine AI ?_
 refine CallW.c false (c1) ?_
 try simp (maxSteps:=9^9) only[go_sem]
 repeat refine AI ?_
 refine CallW.c false (c2) ?_
 try simp (maxSteps:=9^9) only[go_sem]
 repeat refine AI ?_
 refine CallW.c false (c3) ?_
 try simp (maxSteps:=9^9) only[go_sem]
 repeat refine AI ?_
 refine CallW.c false (c4) ?_
 try simp (maxSteps:=9^9) only[go_sem]
 obtain ⟨z,hz⟩:∃ z:Nat,z=0:=⟨0,rfl⟩
 refine LoopG.intro _ _ _ (fun k:Nat=>match k with|0=>⟨[(0,.ptr 0 0),(2,.ptr 1 0),(3,.ptr 3 0),(4,.sc (.int .i64 ((N:Int) - z)))],[(0,.bx (some b) (.fx u0 .u8 code :: (cz (obC C z)).map fun z=>.sc z)),(1,.box [.sc (.int .i64 0),.sc (.int .i64 0),.sc (.int .i64 0),.sc (.int .i64 0),.sc (.slice none 0 0),.sc (.slice none 0 0),.sc (.slice none 0 0)]),(2,.odat tVec R),(3,.box [.sc (.int .i64 0),.sc (.int .i64 0),.sc (.int .i64 (14+H1)),.sc (.int .i64 (12+H2)),.row 2 0,.sc (.slice none 0 0),.sc (.slice none 0 0)])]⟩|k+1=>⟨[(0,.ptr 0 0),(2,.ptr 1 0),(3,.ptr 3 0),(4,.sc (.int .i64 ((N:Int) - (k+1:Nat))))],[(0,.bx (some b) (.fx u0 .u8 code :: (cz (obC C (k+1))).map fun z=>.sc z)),(1,.box [.sc (.int .i64 0),.sc (.int .i64 0),.sc (.int .i64 0),.sc (.int .i64 0),.sc (.slice none 0 0),.sc (.slice none 0 0),.sc (.slice none 0 0)]),(2,.odat tVec R),(3,.box [.sc (.int .i64 0),.sc (.int .i64 0),.sc (.int .i64 (14+H1)),.sc (.int .i64 (12+H2)),.row 2 0,.row 9 0,.sc (.slice none 0 0)]),(9,.row 25 (.slice tVec) 0 true (obL C (k+1)))]⟩) (fun k=>k<=N) (fun k=>N - k) 0 ?_ (Nat.zero_le _) ?_
 ·dsimp only
  rw [show obC C z=C by subst hz; rfl]
  refine Wk.mk [] ?_
  try simp (maxSteps:=9^9) only[go_sem]
  try (and_intros<;>first|rfl|omega|exact ⟨_,rfl⟩)
  all_goals omega
 ·rintro k hk
  rcases k with _|k
  ·have c1:=l06Draw_fn hc (obC C z) 4 (by decide)
   have c2:=l01Below_fn hc (pgD (obC C z) 4 8).2 16 (by decide)
   have c3:=l01Below_fn hc (pgD (obC C z) 4 8).2.next 12 (by decide)
   have b2:=(pgD (obC C z) 4 8).2.below_rng (n:=16) (by decide)
   have b3:=(pgD (obC C z) 4 8).2.next.below_rng (n:=12) (by decide)
   have c4:=moveDraw_fn (obC C z)
   have hll:=obL_len C z
   have el:obL C (z+1)=obL C z++[obX (obC C z)]:=rfl
   have ec:obC C (z+1)=(pgD (obC C z) 4 8).2.next.next:=rfl
   have o1:=l01Once_fn hc (obC C z) 6 (by decide)
   try simp (maxSteps:=9^9) only[go_sem]
   refine CondW_dec (fun hA=>?_) (fun hA=>?_)
   ·try simp (maxSteps:=9^9) only[go_sem]
    repeat refine AI ?_
    refine CallW.c false (c1) ?_
    try simp (maxSteps:=9^9) only[go_sem]
    repeat refine AI ?_
    refine CallW.c false (c2) ?_
    try simp (maxSteps:=9^9) only[go_sem]
    repeat refine AI ?_
    repeat refine AI ?_
    refine CallW.c false (c3) ?_
    try simp (maxSteps:=9^9) only[go_sem]
    repeat refine AI ?_
    repeat refine AI ?_
    refine cw c4 ?_
    try simp (maxSteps:=9^9) only[go_sem]
    try simp (maxSteps:=9^9) only[go_sem,hll]
    repeat refine AI ?_
    refine LoopK.mk (0+1) ?_ (by omega) (by omega)
    dsimp only
    rw [show 0+1=z+1 by omega,ec,el,show obL C z=[] by subst hz; rfl,List.nil_append]
    refine Wk.mk [(9,7)] ?_
    try simp (maxSteps:=9^9) only[go_sem]
    try (and_intros<;>first|rfl|omega|exact ⟨_,rfl⟩)
   ·have e:N=z:=by omega
    subst e
    have eL:obL C N=[]:=by rw [hz]; rfl
    have b4:=(obC C N).next.below_rng (n:=8) (by decide)
    by_cases hB:(obC C N).below 6=0
    ·rw [decide_eq_true hB] at o1
     have eC:skC C N=(obC C N).next.next:=if_pos hB
     have eO:skO C N=obL C N++[rcX (6+(obC C N).next.below 8)]:=congrArg (obL C N++·) (if_pos hB)
     have c5:=l01Below_fn hc (obC C N).next 8 (by decide)
     have c6:=l01Below_fn hc (obC C N).next.next 3 (by decide)
     have b6:=(obC C N).next.next.below_rng (n:=3) (by decide)
     have eM:(obC C N).next.next.below 3=(skM C N:Int):=by unfold skM; rw [eC]; omega
     rw [eM] at c6 b6
     rw [eO,eC]
     rw [eL]
     generalize skM C N=M at *
     try simp (maxSteps:=9^9) only[go_sem]
     repeat refine AI ?_
     refine CallW.c false (o1) ?_
     try simp (maxSteps:=9^9) only[go_sem]
     repeat refine AI ?_
     refine CallW.c false (c5) ?_
     try simp (maxSteps:=9^9) only[go_sem]
     repeat refine AI ?_
     try simp (maxSteps:=9^9) only[go_sem]
     repeat refine AI ?_
     repeat refine AI ?_
     refine CallW.c false (c6) ?_
     try simp (maxSteps:=9^9) only[go_sem]
     generalize (obC C N).next.next.next=X at *
     obtain ⟨z2,hz2⟩:∃ z2:Nat,z2=0:=⟨0,rfl⟩
     refine LoopG.intro _ _ _ (fun m:Nat=>match m with|0=>⟨[(0,.ptr 0 0),(2,.ptr 1 0),(3,.ptr 3 0),(7,.sc (.int .i64 ((M:Int) - z2)))],[(0,.bx (some b) (.fx u0 .u8 code :: (cz (tbC X z2)).map fun z=>.sc z)),(1,.box [.sc (.int .i64 0),.sc (.int .i64 0),.sc (.int .i64 0),.sc (.int .i64 0),.sc (.slice none 0 0),.sc (.slice none 0 0),.sc (.slice none 0 0)]),(2,.odat tVec R),(3,.box [.sc (.int .i64 0),.sc (.int .i64 0),.sc (.int .i64 (14+H1)),.sc (.int .i64 (12+H2)),.row 2 0,.row 9 0,.sc (.slice none 0 0)]),(9,.row 25 (.slice tVec) 0 true ([rcX (6+(obC C N).next.below 8)]))]⟩|m+1=>⟨[(0,.ptr 0 0),(2,.ptr 1 0),(3,.ptr 3 0),(7,.sc (.int .i64 ((M:Int) - (m+1:Nat))))],[(0,.bx (some b) (.fx u0 .u8 code :: (cz (tbC X (m+1))).map fun z=>.sc z)),(1,.box [.sc (.int .i64 0),.sc (.int .i64 0),.sc (.int .i64 0),.sc (.int .i64 0),.sc (.slice none 0 0),.sc (.slice none 0 0),.sc (.slice none 0 0)]),(2,.odat tVec R),(3,.box [.sc (.int .i64 0),.sc (.int .i64 0),.sc (.int .i64 (14+H1)),.sc (.int .i64 (12+H2)),.row 2 0,.row 9 0,.row 10 0]),(9,.row 25 (.slice tVec) 0 true ([rcX (6+(obC C N).next.below 8)])),(10,.row 24 tVec 0 true (tbL X (m+1)))]⟩) (fun m=>m<=M) (fun m=>M - m) 0 ?_ (Nat.zero_le _) ?_
     ·dsimp only
      rw [show tbC X z2=X by subst hz2; rfl]
      refine Wk.mk [(9,6)] ?_
      try simp (maxSteps:=9^9) only[go_sem]
      try (and_intros<;>first|rfl|omega|exact ⟨_,rfl⟩)
      all_goals (first|rfl|omega)
     ·rintro m hk
      rcases m with _|m
      ·have c1:=l01Below_fn hc (tbC X z2) 18 (by decide)
       have c2:=l01Below_fn hc (tbC X z2).next 14 (by decide)
       have b1:=(tbC X z2).below_rng (n:=18) (by decide)
       have b2:=(tbC X z2).next.below_rng (n:=14) (by decide)
       have hll:=tbL_len X z2
       have el:tbL X (z2+1)=tbL X z2++[(3+(tbC X z2).below 18,3+(tbC X z2).next.below 14)]:=rfl
       have ec:tbC X (z2+1)=(tbC X z2).next.next:=rfl
       try simp (maxSteps:=9^9) only[go_sem]
       refine CondW_dec (fun hA=>?_) (fun hA=>?_)
       ·try simp (maxSteps:=9^9) only[go_sem]
        repeat refine AI ?_
        refine CallW.c false (c1) ?_
        try simp (maxSteps:=9^9) only[go_sem]
        repeat refine AI ?_
        repeat refine AI ?_
        refine CallW.c false (c2) ?_
        try simp (maxSteps:=9^9) only[go_sem]
        repeat refine AI ?_
        try simp (maxSteps:=9^9) only[go_sem,hll]
        repeat refine AI ?_
        refine LoopK.mk (0+1) ?_ (by omega) (by omega)
        dsimp only
        rw [show 0+1=z2+1 by omega,ec,el,show tbL X z2=[] by subst hz2; rfl,List.nil_append]
        refine Wk.mk [(10,11)] ?_
        try simp (maxSteps:=9^9) only[go_sem]
        try (and_intros<;>first|rfl|omega|exact ⟨_,rfl⟩)
       ·have e:M=z2:=by omega
        rw [e,show tbL X z2=[] by rw [hz2]; rfl]
        try simp (maxSteps:=9^9) only[go_sem]
        all_goals repeat refine AI ?_
        all_goals first|kernel_rfl|omega|rfl
      ·have c1:=l01Below_fn hc (tbC X (m+1)) 18 (by decide)
       have c2:=l01Below_fn hc (tbC X (m+1)).next 14 (by decide)
       have b1:=(tbC X (m+1)).below_rng (n:=18) (by decide)
       have b2:=(tbC X (m+1)).next.below_rng (n:=14) (by decide)
       have hll:=tbL_len X (m+1)
       have el:tbL X ((m+1)+1)=tbL X (m+1)++[(3+(tbC X (m+1)).below 18,3+(tbC X (m+1)).next.below 14)]:=rfl
       have ec:tbC X ((m+1)+1)=(tbC X (m+1)).next.next:=rfl
       try simp (maxSteps:=9^9) only[go_sem]
       refine CondW_dec (fun hA=>?_) (fun hA=>?_)
       ·try simp (maxSteps:=9^9) only[go_sem]
        repeat refine AI ?_
        refine CallW.c false (c1) ?_
        try simp (maxSteps:=9^9) only[go_sem]
        repeat refine AI ?_
        repeat refine AI ?_
        refine CallW.c false (c2) ?_
        try simp (maxSteps:=9^9) only[go_sem]
        repeat refine AI ?_
        try simp (maxSteps:=9^9) only[go_sem,hll]
        repeat refine AI ?_
        refine LoopK.mk (m+1+1) ?_ (by omega) (by omega)
        dsimp only
        rw [ec,el]
        exact WK
       ·have e:M=m+1:=by omega
        rw [e]
        try simp (maxSteps:=9^9) only[go_sem]
        all_goals repeat refine AI ?_
        all_goals first|kernel_rfl|omega|rfl
    ·rw [decide_eq_false hB] at o1
     have eC:skC C N=(obC C N).next:=if_neg hB
     have eO:skO C N=obL C N:=(congrArg (obL C N++·) (if_neg hB)).trans (List.append_nil _)
     have c6:=l01Below_fn hc (obC C N).next 3 (by decide)
     have b6:=(obC C N).next.below_rng (n:=3) (by decide)
     have eM:(obC C N).next.below 3=(skM C N:Int):=by unfold skM; rw [eC]; omega
     rw [eM] at c6 b6
     rw [eO,eC]
     rw [eL]
     generalize skM C N=M at *
     try simp (maxSteps:=9^9) only[go_sem]
     repeat refine AI ?_
     refine CallW.c false (o1) ?_
     try simp (maxSteps:=9^9) only[go_sem]
     repeat refine AI ?_
     refine CallW.c false (c6) ?_
     try simp (maxSteps:=9^9) only[go_sem]
     generalize (obC C N).next.next=X at *
     obtain ⟨z2,hz2⟩:∃ z2:Nat,z2=0:=⟨0,rfl⟩
     refine LoopG.intro _ _ _ (fun m:Nat=>match m with|0=>⟨[(0,.ptr 0 0),(2,.ptr 1 0),(3,.ptr 3 0),(7,.sc (.int .i64 ((M:Int) - z2)))],[(0,.bx (some b) (.fx u0 .u8 code :: (cz (tbC X z2)).map fun z=>.sc z)),(1,.box [.sc (.int .i64 0),.sc (.int .i64 0),.sc (.int .i64 0),.sc (.int .i64 0),.sc (.slice none 0 0),.sc (.slice none 0 0),.sc (.slice none 0 0)]),(2,.odat tVec R),(3,.box [.sc (.int .i64 0),.sc (.int .i64 0),.sc (.int .i64 (14+H1)),.sc (.int .i64 (12+H2)),.row 2 0,.sc (.slice none 0 0),.sc (.slice none 0 0)])]⟩|m+1=>⟨[(0,.ptr 0 0),(2,.ptr 1 0),(3,.ptr 3 0),(7,.sc (.int .i64 ((M:Int) - (m+1:Nat))))],[(0,.bx (some b) (.fx u0 .u8 code :: (cz (tbC X (m+1))).map fun z=>.sc z)),(1,.box [.sc (.int .i64 0),.sc (.int .i64 0),.sc (.int .i64 0),.sc (.int .i64 0),.sc (.slice none 0 0),.sc (.slice none 0 0),.sc (.slice none 0 0)]),(2,.odat tVec R),(3,.box [.sc (.int .i64 0),.sc (.int .i64 0),.sc (.int .i64 (14+H1)),.sc (.int .i64 (12+H2)),.row 2 0,.sc (.slice none 0 0),.row 10 0]),(10,.row 24 tVec 0 true (tbL X (m+1)))]⟩) (fun m=>m<=M) (fun m=>M - m) 0 ?_ (Nat.zero_le _) ?_
     ·dsimp only
      rw [show tbC X z2=X by subst hz2; rfl]
      refine Wk.mk [] ?_
      try simp (maxSteps:=9^9) only[go_sem]
      try (and_intros<;>first|rfl|omega|exact ⟨_,rfl⟩)
      all_goals (first|rfl|omega)
     ·rintro m hk
      rcases m with _|m
      ·have c1:=l01Below_fn hc (tbC X z2) 18 (by decide)
       have c2:=l01Below_fn hc (tbC X z2).next 14 (by decide)
       have b1:=(tbC X z2).below_rng (n:=18) (by decide)
       have b2:=(tbC X z2).next.below_rng (n:=14) (by decide)
       have hll:=tbL_len X z2
       have el:tbL X (z2+1)=tbL X z2++[(3+(tbC X z2).below 18,3+(tbC X z2).next.below 14)]:=rfl
       have ec:tbC X (z2+1)=(tbC X z2).next.next:=rfl
       try simp (maxSteps:=9^9) only[go_sem]
       refine CondW_dec (fun hA=>?_) (fun hA=>?_)
       ·try simp (maxSteps:=9^9) only[go_sem]
        repeat refine AI ?_
        refine CallW.c false (c1) ?_
        try simp (maxSteps:=9^9) only[go_sem]
        repeat refine AI ?_
        repeat refine AI ?_
        refine CallW.c false (c2) ?_
        try simp (maxSteps:=9^9) only[go_sem]
        repeat refine AI ?_
        try simp (maxSteps:=9^9) only[go_sem,hll]
        repeat refine AI ?_
        refine LoopK.mk (0+1) ?_ (by omega) (by omega)
        dsimp only
        rw [show 0+1=z2+1 by omega,ec,el,show tbL X z2=[] by subst hz2; rfl,List.nil_append]
        refine Wk.mk [(10,5)] ?_
        try simp (maxSteps:=9^9) only[go_sem]
        try (and_intros<;>first|rfl|omega|exact ⟨_,rfl⟩)
       ·have e:M=z2:=by omega
        rw [e,show tbL X z2=[] by rw [hz2]; rfl]
        try simp (maxSteps:=9^9) only[go_sem]
        all_goals repeat refine AI ?_
        all_goals first|kernel_rfl|omega|rfl
      ·have c1:=l01Below_fn hc (tbC X (m+1)) 18 (by decide)
       have c2:=l01Below_fn hc (tbC X (m+1)).next 14 (by decide)
       have b1:=(tbC X (m+1)).below_rng (n:=18) (by decide)
       have b2:=(tbC X (m+1)).next.below_rng (n:=14) (by decide)
       have hll:=tbL_len X (m+1)
       have el:tbL X ((m+1)+1)=tbL X (m+1)++[(3+(tbC X (m+1)).below 18,3+(tbC X (m+1)).next.below 14)]:=rfl
       have ec:tbC X ((m+1)+1)=(tbC X (m+1)).next.next:=rfl
       try simp (maxSteps:=9^9) only[go_sem]
       refine CondW_dec (fun hA=>?_) (fun hA=>?_)
       ·try simp (maxSteps:=9^9) only[go_sem]
        repeat refine AI ?_
        refine CallW.c false (c1) ?_
        try simp (maxSteps:=9^9) only[go_sem]
        repeat refine AI ?_
        repeat refine AI ?_
        refine CallW.c false (c2) ?_
        try simp (maxSteps:=9^9) only[go_sem]
        repeat refine AI ?_
        try simp (maxSteps:=9^9) only[go_sem,hll]
        repeat refine AI ?_
        refine LoopK.mk (m+1+1) ?_ (by omega) (by omega)
        dsimp only
        rw [ec,el]
        exact WK
       ·have e:M=m+1:=by omega
        rw [e]
        try simp (maxSteps:=9^9) only[go_sem]
        all_goals repeat refine AI ?_
        all_goals first|kernel_rfl|omega|rfl
  ·have c1:=l06Draw_fn hc (obC C (k+1)) 4 (by decide)
   have c2:=l01Below_fn hc (pgD (obC C (k+1)) 4 8).2 16 (by decide)
   have c3:=l01Below_fn hc (pgD (obC C (k+1)) 4 8).2.next 12 (by decide)
   have b2:=(pgD (obC C (k+1)) 4 8).2.below_rng (n:=16) (by decide)
   have b3:=(pgD (obC C (k+1)) 4 8).2.next.below_rng (n:=12) (by decide)
   have c4:=moveDraw_fn (obC C (k+1))
   have hll:=obL_len C (k+1)
   have el:obL C ((k+1)+1)=obL C (k+1)++[obX (obC C (k+1))]:=rfl
   have ec:obC C ((k+1)+1)=(pgD (obC C (k+1)) 4 8).2.next.next:=rfl
   have o1:=l01Once_fn hc (obC C (k+1)) 6 (by decide)
   try simp (maxSteps:=9^9) only[go_sem]
   refine CondW_dec (fun hA=>?_) (fun hA=>?_)
   ·try simp (maxSteps:=9^9) only[go_sem]
    repeat refine AI ?_
    refine CallW.c false (c1) ?_
    try simp (maxSteps:=9^9) only[go_sem]
    repeat refine AI ?_
    refine CallW.c false (c2) ?_
    try simp (maxSteps:=9^9) only[go_sem]
    repeat refine AI ?_
    repeat refine AI ?_
    refine CallW.c false (c3) ?_
    try simp (maxSteps:=9^9) only[go_sem]
    repeat refine AI ?_
    repeat refine AI ?_
    refine cw c4 ?_
    try simp (maxSteps:=9^9) only[go_sem]
    try simp (maxSteps:=9^9) only[go_sem,hll]
    repeat refine AI ?_
    refine LoopK.mk (k+1+1) ?_ (by omega) (by omega)
    dsimp only
    rw [ec,el]
    exact WK
   ·have e:N=k+1:=by omega
    subst e
    have b4:=(obC C (k+1)).next.below_rng (n:=8) (by decide)
    by_cases hB:(obC C (k+1)).below 6=0
    ·rw [decide_eq_true hB] at o1
     have eC:skC C (k+1)=(obC C (k+1)).next.next:=if_pos hB
     have eO:skO C (k+1)=obL C (k+1)++[rcX (6+(obC C (k+1)).next.below 8)]:=congrArg (obL C (k+1)++·) (if_pos hB)
     have c5:=l01Below_fn hc (obC C (k+1)).next 8 (by decide)
     have c6:=l01Below_fn hc (obC C (k+1)).next.next 3 (by decide)
     have b6:=(obC C (k+1)).next.next.below_rng (n:=3) (by decide)
     have eM:(obC C (k+1)).next.next.below 3=(skM C (k+1):Int):=by unfold skM; rw [eC]; omega
     rw [eM] at c6 b6
     rw [eO,eC]
     generalize skM C (k+1)=M at *
     try simp (maxSteps:=9^9) only[go_sem]
     repeat refine AI ?_
     refine CallW.c false (o1) ?_
     try simp (maxSteps:=9^9) only[go_sem]
     try simp (maxSteps:=9^9) only[go_sem,hll]
     repeat refine AI ?_
     refine CallW.c false (c5) ?_
     try simp (maxSteps:=9^9) only[go_sem]
     repeat refine AI ?_
     try simp (maxSteps:=9^9) only[go_sem,hll]
     repeat refine AI ?_
     repeat refine AI ?_
     refine CallW.c false (c6) ?_
     try simp (maxSteps:=9^9) only[go_sem]
     generalize (obC C (k+1)).next.next.next=X at *
     obtain ⟨z2,hz2⟩:∃ z2:Nat,z2=0:=⟨0,rfl⟩
     refine LoopG.intro _ _ _ (fun m:Nat=>match m with|0=>⟨[(0,.ptr 0 0),(2,.ptr 1 0),(3,.ptr 3 0),(7,.sc (.int .i64 ((M:Int) - z2)))],[(0,.bx (some b) (.fx u0 .u8 code :: (cz (tbC X z2)).map fun z=>.sc z)),(1,.box [.sc (.int .i64 0),.sc (.int .i64 0),.sc (.int .i64 0),.sc (.int .i64 0),.sc (.slice none 0 0),.sc (.slice none 0 0),.sc (.slice none 0 0)]),(2,.odat tVec R),(3,.box [.sc (.int .i64 0),.sc (.int .i64 0),.sc (.int .i64 (14+H1)),.sc (.int .i64 (12+H2)),.row 2 0,.row 9 0,.sc (.slice none 0 0)]),(9,.row 25 (.slice tVec) 0 true (obL C (k+1)++[rcX (6+(obC C (k+1)).next.below 8)]))]⟩|m+1=>⟨[(0,.ptr 0 0),(2,.ptr 1 0),(3,.ptr 3 0),(7,.sc (.int .i64 ((M:Int) - (m+1:Nat))))],[(0,.bx (some b) (.fx u0 .u8 code :: (cz (tbC X (m+1))).map fun z=>.sc z)),(1,.box [.sc (.int .i64 0),.sc (.int .i64 0),.sc (.int .i64 0),.sc (.int .i64 0),.sc (.slice none 0 0),.sc (.slice none 0 0),.sc (.slice none 0 0)]),(2,.odat tVec R),(3,.box [.sc (.int .i64 0),.sc (.int .i64 0),.sc (.int .i64 (14+H1)),.sc (.int .i64 (12+H2)),.row 2 0,.row 9 0,.row 10 0]),(9,.row 25 (.slice tVec) 0 true (obL C (k+1)++[rcX (6+(obC C (k+1)).next.below 8)])),(10,.row 24 tVec 0 true (tbL X (m+1)))]⟩) (fun m=>m<=M) (fun m=>M - m) 0 ?_ (Nat.zero_le _) ?_
     ·dsimp only
      rw [show tbC X z2=X by subst hz2; rfl]
      refine Wk.mk [] ?_
      try simp (maxSteps:=9^9) only[go_sem]
      try (and_intros<;>first|rfl|omega|exact ⟨_,rfl⟩)
      all_goals (first|rfl|omega)
     ·rintro m hk
      rcases m with _|m
      ·have c1:=l01Below_fn hc (tbC X z2) 18 (by decide)
       have c2:=l01Below_fn hc (tbC X z2).next 14 (by decide)
       have b1:=(tbC X z2).below_rng (n:=18) (by decide)
       have b2:=(tbC X z2).next.below_rng (n:=14) (by decide)
       have hll:=tbL_len X z2
       have el:tbL X (z2+1)=tbL X z2++[(3+(tbC X z2).below 18,3+(tbC X z2).next.below 14)]:=rfl
       have ec:tbC X (z2+1)=(tbC X z2).next.next:=rfl
       try simp (maxSteps:=9^9) only[go_sem]
       refine CondW_dec (fun hA=>?_) (fun hA=>?_)
       ·try simp (maxSteps:=9^9) only[go_sem]
        repeat refine AI ?_
        refine CallW.c false (c1) ?_
        try simp (maxSteps:=9^9) only[go_sem]
        repeat refine AI ?_
        repeat refine AI ?_
        refine CallW.c false (c2) ?_
        try simp (maxSteps:=9^9) only[go_sem]
        repeat refine AI ?_
        try simp (maxSteps:=9^9) only[go_sem,hll]
        repeat refine AI ?_
        refine LoopK.mk (0+1) ?_ (by omega) (by omega)
        dsimp only
        rw [show 0+1=z2+1 by omega,ec,el,show tbL X z2=[] by subst hz2; rfl,List.nil_append]
        refine Wk.mk [(10,11)] ?_
        try simp (maxSteps:=9^9) only[go_sem]
        try (and_intros<;>first|rfl|omega|exact ⟨_,rfl⟩)
       ·have e:M=z2:=by omega
        rw [e,show tbL X z2=[] by rw [hz2]; rfl]
        try simp (maxSteps:=9^9) only[go_sem]
        all_goals repeat refine AI ?_
        all_goals first|kernel_rfl|omega|rfl
      ·have c1:=l01Below_fn hc (tbC X (m+1)) 18 (by decide)
       have c2:=l01Below_fn hc (tbC X (m+1)).next 14 (by decide)
       have b1:=(tbC X (m+1)).below_rng (n:=18) (by decide)
       have b2:=(tbC X (m+1)).next.below_rng (n:=14) (by decide)
       have hll:=tbL_len X (m+1)
       have el:tbL X ((m+1)+1)=tbL X (m+1)++[(3+(tbC X (m+1)).below 18,3+(tbC X (m+1)).next.below 14)]:=rfl
       have ec:tbC X ((m+1)+1)=(tbC X (m+1)).next.next:=rfl
       try simp (maxSteps:=9^9) only[go_sem]
       refine CondW_dec (fun hA=>?_) (fun hA=>?_)
       ·try simp (maxSteps:=9^9) only[go_sem]
        repeat refine AI ?_
        refine CallW.c false (c1) ?_
        try simp (maxSteps:=9^9) only[go_sem]
        repeat refine AI ?_
        repeat refine AI ?_
        refine CallW.c false (c2) ?_
        try simp (maxSteps:=9^9) only[go_sem]
        repeat refine AI ?_
        try simp (maxSteps:=9^9) only[go_sem,hll]
        repeat refine AI ?_
        refine LoopK.mk (m+1+1) ?_ (by omega) (by omega)
        dsimp only
        rw [ec,el]
        exact WK
       ·have e:M=m+1:=by omega
        rw [e]
        try simp (maxSteps:=9^9) only[go_sem]
        all_goals repeat refine AI ?_
        all_goals first|kernel_rfl|omega|rfl
    ·rw [decide_eq_false hB] at o1
     have eC:skC C (k+1)=(obC C (k+1)).next:=if_neg hB
     have eO:skO C (k+1)=obL C (k+1):=(congrArg (obL C (k+1)++·) (if_neg hB)).trans (List.append_nil _)
     have c6:=l01Below_fn hc (obC C (k+1)).next 3 (by decide)
     have b6:=(obC C (k+1)).next.below_rng (n:=3) (by decide)
     have eM:(obC C (k+1)).next.below 3=(skM C (k+1):Int):=by unfold skM; rw [eC]; omega
     rw [eM] at c6 b6
     rw [eO,eC]
     generalize skM C (k+1)=M at *
     try simp (maxSteps:=9^9) only[go_sem]
     repeat refine AI ?_
     refine CallW.c false (o1) ?_
     try simp (maxSteps:=9^9) only[go_sem]
     try simp (maxSteps:=9^9) only[go_sem,hll]
     repeat refine AI ?_
     refine CallW.c false (c6) ?_
     try simp (maxSteps:=9^9) only[go_sem]
     generalize (obC C (k+1)).next.next=X at *
     obtain ⟨z2,hz2⟩:∃ z2:Nat,z2=0:=⟨0,rfl⟩
     refine LoopG.intro _ _ _ (fun m:Nat=>match m with|0=>⟨[(0,.ptr 0 0),(2,.ptr 1 0),(3,.ptr 3 0),(7,.sc (.int .i64 ((M:Int) - z2)))],[(0,.bx (some b) (.fx u0 .u8 code :: (cz (tbC X z2)).map fun z=>.sc z)),(1,.box [.sc (.int .i64 0),.sc (.int .i64 0),.sc (.int .i64 0),.sc (.int .i64 0),.sc (.slice none 0 0),.sc (.slice none 0 0),.sc (.slice none 0 0)]),(2,.odat tVec R),(3,.box [.sc (.int .i64 0),.sc (.int .i64 0),.sc (.int .i64 (14+H1)),.sc (.int .i64 (12+H2)),.row 2 0,.row 9 0,.sc (.slice none 0 0)]),(9,.row 25 (.slice tVec) 0 true (obL C (k+1)))]⟩|m+1=>⟨[(0,.ptr 0 0),(2,.ptr 1 0),(3,.ptr 3 0),(7,.sc (.int .i64 ((M:Int) - (m+1:Nat))))],[(0,.bx (some b) (.fx u0 .u8 code :: (cz (tbC X (m+1))).map fun z=>.sc z)),(1,.box [.sc (.int .i64 0),.sc (.int .i64 0),.sc (.int .i64 0),.sc (.int .i64 0),.sc (.slice none 0 0),.sc (.slice none 0 0),.sc (.slice none 0 0)]),(2,.odat tVec R),(3,.box [.sc (.int .i64 0),.sc (.int .i64 0),.sc (.int .i64 (14+H1)),.sc (.int .i64 (12+H2)),.row 2 0,.row 9 0,.row 10 0]),(9,.row 25 (.slice tVec) 0 true (obL C (k+1))),(10,.row 24 tVec 0 true (tbL X (m+1)))]⟩) (fun m=>m<=M) (fun m=>M - m) 0 ?_ (Nat.zero_le _) ?_
     ·dsimp only
      rw [show tbC X z2=X by subst hz2; rfl]
      refine Wk.mk [] ?_
      try simp (maxSteps:=9^9) only[go_sem]
      try (and_intros<;>first|rfl|omega|exact ⟨_,rfl⟩)
      all_goals (first|rfl|omega)
     ·rintro m hk
      rcases m with _|m
      ·have c1:=l01Below_fn hc (tbC X z2) 18 (by decide)
       have c2:=l01Below_fn hc (tbC X z2).next 14 (by decide)
       have b1:=(tbC X z2).below_rng (n:=18) (by decide)
       have b2:=(tbC X z2).next.below_rng (n:=14) (by decide)
       have hll:=tbL_len X z2
       have el:tbL X (z2+1)=tbL X z2++[(3+(tbC X z2).below 18,3+(tbC X z2).next.below 14)]:=rfl
       have ec:tbC X (z2+1)=(tbC X z2).next.next:=rfl
       try simp (maxSteps:=9^9) only[go_sem]
       refine CondW_dec (fun hA=>?_) (fun hA=>?_)
       ·try simp (maxSteps:=9^9) only[go_sem]
        repeat refine AI ?_
        refine CallW.c false (c1) ?_
        try simp (maxSteps:=9^9) only[go_sem]
        repeat refine AI ?_
        repeat refine AI ?_
        refine CallW.c false (c2) ?_
        try simp (maxSteps:=9^9) only[go_sem]
        repeat refine AI ?_
        try simp (maxSteps:=9^9) only[go_sem,hll]
        repeat refine AI ?_
        refine LoopK.mk (0+1) ?_ (by omega) (by omega)
        dsimp only
        rw [show 0+1=z2+1 by omega,ec,el,show tbL X z2=[] by subst hz2; rfl,List.nil_append]
        refine Wk.mk [(10,11)] ?_
        try simp (maxSteps:=9^9) only[go_sem]
        try (and_intros<;>first|rfl|omega|exact ⟨_,rfl⟩)
       ·have e:M=z2:=by omega
        rw [e,show tbL X z2=[] by rw [hz2]; rfl]
        try simp (maxSteps:=9^9) only[go_sem]
        all_goals repeat refine AI ?_
        all_goals first|kernel_rfl|omega|rfl
      ·have c1:=l01Below_fn hc (tbC X (m+1)) 18 (by decide)
       have c2:=l01Below_fn hc (tbC X (m+1)).next 14 (by decide)
       have b1:=(tbC X (m+1)).below_rng (n:=18) (by decide)
       have b2:=(tbC X (m+1)).next.below_rng (n:=14) (by decide)
       have hll:=tbL_len X (m+1)
       have el:tbL X ((m+1)+1)=tbL X (m+1)++[(3+(tbC X (m+1)).below 18,3+(tbC X (m+1)).next.below 14)]:=rfl
       have ec:tbC X ((m+1)+1)=(tbC X (m+1)).next.next:=rfl
       try simp (maxSteps:=9^9) only[go_sem]
       refine CondW_dec (fun hA=>?_) (fun hA=>?_)
       ·try simp (maxSteps:=9^9) only[go_sem]
        repeat refine AI ?_
        refine CallW.c false (c1) ?_
        try simp (maxSteps:=9^9) only[go_sem]
        repeat refine AI ?_
        repeat refine AI ?_
        refine CallW.c false (c2) ?_
        try simp (maxSteps:=9^9) only[go_sem]
        repeat refine AI ?_
        try simp (maxSteps:=9^9) only[go_sem,hll]
        repeat refine AI ?_
        refine LoopK.mk (m+1+1) ?_ (by omega) (by omega)
        dsimp only
        rw [ec,el]
        exact WK
       ·have e:M=m+1:=by omega
        rw [e]
        try simp (maxSteps:=9^9) only[go_sem]
        all_goals repeat refine AI ?_
        all_goals first|kernel_rfl|omega|rfl
variable {code:List Int}
def atK (c:Cu code):Int × Int:=(2 * (1+c.below 22)+(if c.next.next.below 2=0 then 1 else 0),2 * (1+c.next.below 18))
theorem atK_ok (c:Cu code):hpOk (atK c):=by
 have h1:=c.below_rng (n:=22) (by decide)
 have h2:=c.next.below_rng (n:=18) (by decide)
 unfold hpOk atK
 simp only
 split<;>omega
theorem ratI_half (x:Int):ratI x=ratD (((2 * x:Int):Rat) / 2):=by
 rw [ratI_eq]
 refine congrArg ratD ?_
 rw [Rat.intCast_mul,two_c]; grind
theorem half_up (x:Int):(x:Rat)+((1:Int):Rat) / ((2:Int):Rat)=((2 * x+1:Int):Rat) / 2:=by
 rw [Rat.intCast_add,Rat.intCast_mul,two_c,one_c]; grind
theorem l11At_fn (hc:code.length<=1048576) (c:Cu code):Dr 20 c c.next.next.next [] true ⟨tPoint,hp (atK c)⟩:=by
 have h1:=c.below_rng (n:=22) (by decide)
 have h2:=c.next.below_rng (n:=18) (by decide)
 have cp:=PointOfS_fn (1+c.below 22,1+c.next.below 18)
 have cr:=RatOfS_fn 1 2 (by decide) (by decide)
 have hh:fit (((1:Int):Rat) / ((2:Int):Rat)):=fit_div (by decide) (by decide)
 rw [cap_fit hh] at cr
 have ca:=specRatAdd_fn (ptV (1+c.below 22,1+c.next.below 18)).1 (oD (some (((1:Int):Rat) / ((2:Int):Rat))))
 rw [show rdO (ptV (1+c.below 22,1+c.next.below 18)).1=some ((1+c.below 22:Int):Rat) by rw [show (ptV (1+c.below 22,1+c.next.below 18)).1=ratI (1+c.below 22) from rfl,ratI_eq]; exact rd_fit (fit_int (by omega)),rdO_oD (ok_fit hh),add_fit (by rw [half_up]; exact half_fit (by omega)),half_up] at ca
 by_cases hb:c.next.next.below 2=0
 ·have e:hp (atK c)=(oD (some (((2 * (1+c.below 22)+1:Int):Rat) / 2)),(ptV (1+c.below 22,1+c.next.below 18)).2):=by
   have e1:(ptV (1+c.below 22,1+c.next.below 18)).2=ratD (((2 * (1+c.next.below 18):Int):Rat) / 2):=ratI_half _
   rw [e1]; unfold atK; rw [if_pos hb]; rfl
  rw [e]
  refine fnC_enter tabOK mixes Tryz.func20 rfl rfl _ Tryz.ntmps20 _ Tryz.results20 (by simp) (cz_ok hc _) (cz_one _) fun b u0 hwl hzs hwf=>?_
  try simp (maxSteps:=9^9) only[go_sem]
  repeat refine AI ?_
  refine CallW.c false (l01Below_fn hc c 22 (by omega)) ?_
  try simp (maxSteps:=9^9) only[go_sem]
  repeat refine AI ?_
  repeat refine AI ?_
  refine CallW.c false (l01Below_fn hc c.next 18 (by omega)) ?_
  try simp (maxSteps:=9^9) only[go_sem]
  repeat refine AI ?_
  repeat refine AI ?_
  refine cw cp ?_
  try simp (maxSteps:=9^9) only[go_sem]
  repeat refine AI ?_
  refine CallW.c false (l01Once_fn hc c.next.next 2 (by omega)) ?_
  try simp (maxSteps:=9^9) only[go_sem]
  refine CondW_dec (fun hB=>?_) (fun hB=>absurd hb hB)
  try simp (maxSteps:=9^9) only[go_sem]
  repeat refine AI ?_
  repeat refine AI ?_
  refine cw cr ?_
  try simp (maxSteps:=9^9) only[go_sem]
  repeat refine AI ?_
  refine cw ca ?_
  try simp (maxSteps:=9^9) only[go_sem]
  all_goals repeat refine AI ?_
  all_goals first|kernel_rfl|omega|rfl
 ·have e:hp (atK c)=ptV (1+c.below 22,1+c.next.below 18):=by
   unfold atK; rw [if_neg hb,Int.add_zero]
   unfold ptV hp
   rw [ratI_half,ratI_half]
  rw [e]
  refine fnC_enter tabOK mixes Tryz.func20 rfl rfl _ Tryz.ntmps20 _ Tryz.results20 (by simp) (cz_ok hc _) (cz_one _) fun b u0 hwl hzs hwf=>?_
  try simp (maxSteps:=9^9) only[go_sem]
  repeat refine AI ?_
  refine CallW.c false (l01Below_fn hc c 22 (by omega)) ?_
  try simp (maxSteps:=9^9) only[go_sem]
  repeat refine AI ?_
  repeat refine AI ?_
  refine CallW.c false (l01Below_fn hc c.next 18 (by omega)) ?_
  try simp (maxSteps:=9^9) only[go_sem]
  repeat refine AI ?_
  repeat refine AI ?_
  refine cw cp ?_
  try simp (maxSteps:=9^9) only[go_sem]
  repeat refine AI ?_
  refine CallW.c false (l01Once_fn hc c.next.next 2 (by omega)) ?_
  try simp (maxSteps:=9^9) only[go_sem]
  refine CondW_dec (fun hB=>absurd hB hb) (fun hB=>?_)
  try simp (maxSteps:=9^9) only[go_sem]
  all_goals repeat refine AI ?_
  all_goals first|kernel_rfl|omega|rfl
variable {code:List Int}
noncomputable def mkSc (code:List Int) (hc:code.length<=1048576):DSc:=scD (Cu.new code hc)
theorem mkSc_ok (hc:code.length<=1048576):sceneB (mkSc code hc)=true:=scD_ok _
theorem MakeScene_fn (hc:code.length<=1048576):Fn Tryz.prog 4 [⟨.slice .u8,code⟩] false [⟨tScene,mkSc code hc⟩]:=by
 rw [mkSc]
 refine fe Tryz.func4 Tryz.ntmps4 Tryz.results4 fun hwf=>?_
 try simp (maxSteps:=9^9) only[go_sem]
 repeat refine AI ?_
 refine CallW.nb (l01New_fn hc) ?_
 try simp (maxSteps:=9^9) only[go_sem]
 repeat refine AI ?_
 refine CallW.c false (l10Draw_fn hc (Cu.new code hc)) ?_
 try simp (maxSteps:=9^9) only[go_sem]
 all_goals repeat refine AI ?_
 all_goals first|kernel_rfl|omega|rfl
def mkAt (code:List Int) (hc:code.length<=1048576) (n:Int):Int × Int:=atK (Cu.at code hc (5 * n))
theorem MakeAt_fn (hc:code.length<=1048576) (n:Int) (hn:1<=n/\n<=2):Fn Tryz.prog 6 [⟨.slice .u8,code⟩,⟨.int,n⟩] false [⟨tPoint,hp (mkAt code hc n)⟩]:=by
 rw [mkAt]
 refine fe Tryz.func6 Tryz.ntmps6 Tryz.results6 fun hwf=>?_
 try simp (maxSteps:=9^9) only[go_sem]
 repeat refine AI ?_
 repeat refine AI ?_
 refine CallW.nb (l31New_fn hc (5 * n) (by omega)) ?_
 try simp (maxSteps:=9^9) only[go_sem]
 repeat refine AI ?_
 refine CallW.c false (l11At_fn hc (Cu.at code hc (5 * n))) ?_
 try simp (maxSteps:=9^9) only[go_sem]
 all_goals repeat refine AI ?_
 all_goals first|kernel_rfl|omega|rfl
set_option maxHeartbeats 4000000 in
theorem lawClearance_fn (code:List Int):Fn Tryz.prog 3 [⟨.slice .u8,code⟩] false [⟨.bool,true⟩]:=by
 by_cases hc:code.length<=1048576
 rotate_left
 ·have d0:decide (((1048576:Int)) < (code.length:Int))=true:=decide_eq_true (by omega)
  refine fe Tryz.func3 Tryz.ntmps3 Tryz.results3 fun hwf=>?_
  try simp (maxSteps:=9^9) only[go_sem,d0]
  all_goals repeat refine AI ?_
  all_goals first|kernel_rfl|omega|rfl
 have d0:decide (((1048576:Int)) < (code.length:Int))=false:=decide_eq_false (by omega)
 have cS:=MakeScene_fn hc
 have hs:=mkSc_ok hc
 have cN:=MakeNum_fn hc 1 (by decide)
 have rN:=mkNum_rng hc 1
 have cP:=MakeAt_fn hc 1 (by decide)
 have cQ:=MakeAt_fn hc 2 (by decide)
 have hu:hpOk (mkAt code hc 1):=atK_ok _
 have hv:hpOk (mkAt code hc 2):=atK_ok _
 generalize mkSc code hc=s at *
 generalize mkNum code hc 1=n at *
 generalize mkAt code hc 1=u at *
 generalize mkAt code hc 2=v at *
 have hh:0<=n % 4/\n % 4<=3:=by omega
 have op:=CG.at_ok (CG.at_hp hu)
 have oq:=CG.at_ok (CG.at_hp hv)
 have om:=CG.at_ok (CG.at_md hu hv)
 have L:=CG.cl_law (h:=n % 4) hs hu hv
 have M:=CG.na_law (s:=s) (h:=n % 4) (p:=hp u)
 have cM:=MiddleOf_fn (hp u) (hp v) op oq (CG.md_some hu hv)
 generalize hp u=p at *
 generalize hp v=q at *
 generalize mdD p q=m at *
 obtain ⟨La,Lb,Lc,Ld,Le⟩:=L
 have cD:=MoveClearanceI_fn s (n % 4) p q
 have okd:=okO_mcD s (n % 4) p q
 generalize hd:mcD s (n % 4) p q=d at *
 have cSg:=RatSignI_fn d okd
 have cF:=IsFreeMoveI_fn s (n % 4) p q op oq
 have cC1:=PlacementClearance_fn s (n % 4) p op
 have cC2:=PlacementClearance_fn s (n % 4) m om
 have cR1:=RatCmpI_fn d (clD s (n % 4) p) okd (okO_clD _ _ _)
 have cR2:=RatCmpI_fn d (clD s (n % 4) m) okd (okO_clD _ _ _)
 have cO:=implRatOk_fn (oD d)
 have cK:=KeepsClearance_fn s (n % 4) p q hs hh op oq
 have cA:=NearestArea_fn s (n % 4) p hs hh op
 rw [Le] at cK
 rw [<-La] at cF cK
 rw [Ld] at cO
 have b1:decide (0 < cmpO d (clD s (n % 4) p))=false:=decide_eq_false Lb
 have b2:decide (0 < cmpO d (clD s (n % 4) m))=false:=decide_eq_false Lc
 have ho:=(scene_p hs).nobs
 generalize clD s (n % 4) p=e1 at *
 generalize clD s (n % 4) m=e2 at *
 generalize cmpO d e1=f1 at *
 generalize cmpO d e2=f2 at *
 generalize hg:sgnO d=g at *
 refine fe Tryz.func3 Tryz.ntmps3 Tryz.results3 fun hwf=>?_
 try simp (maxSteps:=9^9) only[go_sem,d0]
 repeat refine AI ?_
 refine cw cS ?_
 try simp (maxSteps:=9^9) only[go_sem]
 repeat refine AI ?_
 repeat refine AI ?_
 refine cw cN ?_
 try simp (maxSteps:=9^9) only[go_sem]
 repeat refine AI ?_
 refine RemW.pos (by omega) (by omega) ?_
 try simp (maxSteps:=9^9) only[go_sem]
 repeat refine AI ?_
 repeat refine AI ?_
 refine cw cP ?_
 try simp (maxSteps:=9^9) only[go_sem]
 repeat refine AI ?_
 repeat refine AI ?_
 refine cw cQ ?_
 try simp (maxSteps:=9^9) only[go_sem]
 repeat refine AI ?_
 repeat refine AI ?_
 refine cw cD ?_
 try simp (maxSteps:=9^9) only[go_sem]
 repeat refine AI ?_
 repeat refine AI ?_
 refine cw cSg ?_
 try simp (maxSteps:=9^9) only[go_sem]
 repeat refine AI ?_
 repeat refine AI ?_
 refine cw cF ?_
 try simp (maxSteps:=9^9) only[go_sem]
 repeat refine AI ?_
 refine cw cC1 ?_
 try simp (maxSteps:=9^9) only[go_sem]
 repeat refine AI ?_
 repeat refine AI ?_
 refine cw cR1 ?_
 try simp (maxSteps:=9^9) only[go_sem]
 try simp (maxSteps:=9^9) only[go_sem,b1]
 repeat refine AI ?_
 repeat refine AI ?_
 refine cw cM ?_
 try simp (maxSteps:=9^9) only[go_sem]
 repeat refine AI ?_
 repeat refine AI ?_
 refine cw cC2 ?_
 try simp (maxSteps:=9^9) only[go_sem]
 repeat refine AI ?_
 repeat refine AI ?_
 refine cw cR2 ?_
 try simp (maxSteps:=9^9) only[go_sem]
 try simp (maxSteps:=9^9) only[go_sem,b2]
 repeat refine AI ?_
 repeat refine AI ?_
 refine cw cO ?_
 try simp (maxSteps:=9^9) only[go_sem]
 repeat refine AI ?_
 repeat refine AI ?_
 refine cw cK ?_
 try simp (maxSteps:=9^9) only[go_sem]
 repeat refine AI ?_
 repeat refine AI ?_
 refine cw cSg ?_
 try simp (maxSteps:=9^9) only[go_sem]
 repeat refine AI ?_
 repeat refine AI ?_
 refine cw cA ?_
 try simp (maxSteps:=9^9) only[go_sem]
 repeat refine AI ?_
 exact beq_iff_eq.2 M
end Go.Proofs.YtbopoblkoainjaaGreat.DW
