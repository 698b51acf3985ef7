/-
  Texts of a proof, one behind another: LwR, MarkR.
-/
import Derived.Test.YtpdiggaapdhffaaGreatKCH3
set_option linter.all false
set_option maxRecDepth 100000
namespace Go.Proofs.YtpdiggaapdhffaaGreat
open Go.RowKit
abbrev DDoorS:=DVecS
abbrev RDoorS:Rp DDoorS:=RVecS
abbrev DBox:=DVec × DVec
abbrev RBox:Rp DBox:=Rp.prod RVec RVec
abbrev DCell:=DRat × (DRat × (DRat × (DRat × (DRat × DRat))))
abbrev RCell:Rp DCell:=Rp.prod RRat (Rp.prod RRat (Rp.prod RRat (Rp.prod RRat (Rp.prod RRat RRat))))
def tCell (x:DCell):Nat:=Go.Proofs.YtpdiggaapdhffaaGreat.tRat x.1+Go.Proofs.YtpdiggaapdhffaaGreat.tRat x.2.1+Go.Proofs.YtpdiggaapdhffaaGreat.tRat x.2.2.1+Go.Proofs.YtpdiggaapdhffaaGreat.tRat x.2.2.2.1+Go.Proofs.YtpdiggaapdhffaaGreat.tRat x.2.2.2.2.1+Go.Proofs.YtpdiggaapdhffaaGreat.tRat x.2.2.2.2.2
abbrev DCellS:=List DCell
abbrev RCellS:Rp DCellS:=Rp.slice RCell (by decide)
def tCellS:DCellS->Nat
 | []=>0
 | x :: l=>Go.Proofs.YtpdiggaapdhffaaGreat.tCell x+tCellS l
theorem tCellS_snoc (l:DCellS) (x:DCell):tCellS (l++[x])=tCellS l+Go.Proofs.YtpdiggaapdhffaaGreat.tCell x:=by
 induction l with
 | nil=>simp [tCellS]
 | cons y l ih=>simp [tCellS,ih]; omega
theorem tCellS_take (l:DCellS) (k:Nat):tCellS (l.take k)<=tCellS l:=by
 induction l generalizing k with
 | nil=>simp [tCellS]
 | cons y l ih=>cases k with
  | zero=>simp [tCellS]
  | succ k=>have:=ih k; simp [tCellS]; omega
theorem tCellS_mem {l:DCellS} {i:Nat} (h:i < l.length):Go.Proofs.YtpdiggaapdhffaaGreat.tCell l[i]<=tCellS l:=by
 have h1:=tCellS_take l (i+1)
 rw [List.take_succ_eq_append_getElem h,tCellS_snoc] at h1
 omega
abbrev DWall:=DRat × (DRat × DRat)
abbrev RWall:Rp DWall:=Rp.prod RRat (Rp.prod RRat RRat)
def tWall (x:DWall):Nat:=Go.Proofs.YtpdiggaapdhffaaGreat.tRat x.1+Go.Proofs.YtpdiggaapdhffaaGreat.tRat x.2.1+Go.Proofs.YtpdiggaapdhffaaGreat.tRat x.2.2
abbrev DWallS:=List DWall
abbrev RWallS:Rp DWallS:=Rp.slice RWall (by decide)
def tWallS:DWallS->Nat
 | []=>0
 | x :: l=>Go.Proofs.YtpdiggaapdhffaaGreat.tWall x+tWallS l
theorem tWallS_snoc (l:DWallS) (x:DWall):tWallS (l++[x])=tWallS l+Go.Proofs.YtpdiggaapdhffaaGreat.tWall x:=by
 induction l with
 | nil=>simp [tWallS]
 | cons y l ih=>simp [tWallS,ih]; omega
theorem tWallS_take (l:DWallS) (k:Nat):tWallS (l.take k)<=tWallS l:=by
 induction l generalizing k with
 | nil=>simp [tWallS]
 | cons y l ih=>cases k with
  | zero=>simp [tWallS]
  | succ k=>have:=ih k; simp [tWallS]; omega
theorem tWallS_mem {l:DWallS} {i:Nat} (h:i < l.length):Go.Proofs.YtpdiggaapdhffaaGreat.tWall l[i]<=tWallS l:=by
 have h1:=tWallS_take l (i+1)
 rw [List.take_succ_eq_append_getElem h,tWallS_snoc] at h1
 omega
abbrev DIntSS:=List DIntS
abbrev RIntSS:Rp DIntSS:=Rp.slice RIntS (by decide)
def tIntSS:DIntSS->Nat
 | []=>0
 | x :: l=>x.length+tIntSS l
theorem tIntSS_snoc (l:DIntSS) (x:DIntS):tIntSS (l++[x])=tIntSS l+x.length:=by
 induction l with
 | nil=>simp [tIntSS]
 | cons y l ih=>simp [tIntSS,ih]; omega
theorem tIntSS_take (l:DIntSS) (k:Nat):tIntSS (l.take k)<=tIntSS l:=by
 induction l generalizing k with
 | nil=>simp [tIntSS]
 | cons y l ih=>cases k with
  | zero=>simp [tIntSS]
  | succ k=>have:=ih k; simp [tIntSS]; omega
theorem tIntSS_mem {l:DIntSS} {i:Nat} (h:i < l.length):l[i].length<=tIntSS l:=by
 have h1:=tIntSS_take l (i+1)
 rw [List.take_succ_eq_append_getElem h,tIntSS_snoc] at h1
 omega
abbrev DSlice:=Int × (Bool × (DBox × (DVecSS × (DCellS × (DWallS × (DDoorS × DIntS))))))
abbrev RSlice:Rp DSlice:=Rp.prod Rp.int (Rp.prod Rp.bool (Rp.prod RBox (Rp.prod RVecSS (Rp.prod RCellS (Rp.prod RWallS (Rp.prod RDoorS RIntS))))))
def tSlice (x:DSlice):Nat:=(x.2.2.2.1.length+Go.Proofs.YtpdiggaapdhffaaGreat.tVecSS x.2.2.2.1)+(x.2.2.2.2.1.length+Go.Proofs.YtpdiggaapdhffaaGreat.tCellS x.2.2.2.2.1)+(x.2.2.2.2.2.1.length+Go.Proofs.YtpdiggaapdhffaaGreat.tWallS x.2.2.2.2.2.1)+x.2.2.2.2.2.2.1.length+x.2.2.2.2.2.2.2.length
abbrev DSliceS:=List DSlice
abbrev RSliceS:Rp DSliceS:=Rp.slice RSlice (by decide)
def tSliceS:DSliceS->Nat
 | []=>0
 | x :: l=>Go.Proofs.YtpdiggaapdhffaaGreat.tSlice x+tSliceS l
theorem tSliceS_snoc (l:DSliceS) (x:DSlice):tSliceS (l++[x])=tSliceS l+Go.Proofs.YtpdiggaapdhffaaGreat.tSlice x:=by
 induction l with
 | nil=>simp [tSliceS]
 | cons y l ih=>simp [tSliceS,ih]; omega
theorem tSliceS_take (l:DSliceS) (k:Nat):tSliceS (l.take k)<=tSliceS l:=by
 induction l generalizing k with
 | nil=>simp [tSliceS]
 | cons y l ih=>cases k with
  | zero=>simp [tSliceS]
  | succ k=>have:=ih k; simp [tSliceS]; omega
theorem tSliceS_mem {l:DSliceS} {i:Nat} (h:i < l.length):Go.Proofs.YtpdiggaapdhffaaGreat.tSlice l[i]<=tSliceS l:=by
 have h1:=tSliceS_take l (i+1)
 rw [List.take_succ_eq_append_getElem h,tSliceS_snoc] at h1
 omega
abbrev DRoad:=DScene × (DSliceS × (DIntS × DIntSS))
abbrev RRoad:Rp DRoad:=Rp.prod RScene (Rp.prod RSliceS (Rp.prod RIntS RIntSS))
def tRoad (x:DRoad):Nat:=Go.Proofs.YtpdiggaapdhffaaGreat.tScene x.1+(x.2.1.length+Go.Proofs.YtpdiggaapdhffaaGreat.tSliceS x.2.1)+x.2.2.1.length+(x.2.2.2.length+Go.Proofs.YtpdiggaapdhffaaGreat.tIntSS x.2.2.2)
namespace DW
attribute [go_sem] Tryz.underlying30
@[go_sem] theorem bts_Cell:bts Tryz.prog 125=some 336:=by kernel_rfl
@[go_sem] theorem bts_Wall:bts Tryz.prog 127=some 168:=by kernel_rfl
@[go_sem] theorem bts_Slice:bts Tryz.prog 65=some 168:=by kernel_rfl
@[go_sem] theorem bts_Door:bts Tryz.prog 129=some 16:=by kernel_rfl
@[go_sem] theorem bts_intS:bts Tryz.prog 29=some 24:=by kernel_rfl
theorem szDoorS_fn (x:DVecS) (left:Int) (h0:0<=left) (h1:left<=1048576):Fn Tryz.prog 60 [⟨.slice DW.tVec,x⟩,⟨.int,left⟩] false [⟨.int,szr left x.length⟩]:=by
 by_cases h:(x.length:Int)<=left
 ·rw [<-szr_ge h]
  have d:=decide_eq_false (p:=left - (x.length:Int) < 0) (by omega)
  refine fe Tryz.func60 Tryz.ntmps60 Tryz.results60 fun hwf=>?_
  have hl:x.length<=9223372036854775807:=(hwf ⟨.slice DW.tVec,x⟩ (by simp)).1
  try simp (maxSteps:=9^9) only[go_sem]
  repeat refine AI ?_
  try simp (maxSteps:=9^9) only[go_sem,d]
  all_goals repeat refine AI ?_
  all_goals first|kernel_rfl|omega|rfl
 ·rw [<-szr_lt (by omega)]
  have d:=decide_eq_true (p:=left - (x.length:Int) < 0) (by omega)
  refine fe Tryz.func60 Tryz.ntmps60 Tryz.results60 fun hwf=>?_
  have hl:x.length<=9223372036854775807:=(hwf ⟨.slice DW.tVec,x⟩ (by simp)).1
  try simp (maxSteps:=9^9) only[go_sem]
  repeat refine AI ?_
  try simp (maxSteps:=9^9) only[go_sem,d]
  all_goals repeat refine AI ?_
  all_goals first|kernel_rfl|omega|rfl
theorem toDoor_fn (x:DVec):Fn Tryz.prog 93 [⟨DW.tVec,x⟩] false [⟨DW.tVec,x⟩]:=by
 refine fe Tryz.func93 Tryz.ntmps93 Tryz.results93 fun hwf=>?_
 try simp (maxSteps:=9^9) only[go_sem]
 all_goals repeat refine AI ?_
 all_goals first|kernel_rfl|omega|rfl
theorem toDoorS_fn (x:DVecS) (hs:x.length<=1048576):Fn Tryz.prog 69 [⟨.slice DW.tVec,x⟩] true [⟨.slice DW.tVec,x⟩]:=by
 refine fe Tryz.func69 Tryz.ntmps69 Tryz.results69 fun hwf=>?_
 try simp (maxSteps:=9^9) only[go_sem]
 repeat refine AI ?_
 refine LoopG.intro _ _ _ (fun i:Nat=>⟨[(0,.sl DW.tVec x),(3,.row 0 0),(4,.sc (.int .i64 i))],[(0,.row 129 DW.tVec 0 true (x.take i++List.replicate (x.length - i) ((0:Int),(0:Int))))]⟩) (fun i=>i<=x.length) (fun i=>x.length - i) 0 ?_ (Nat.zero_le _) ?_
 ·exact WK
 ·rintro i hi
  have hlen:(x.take i++List.replicate (x.length - i) ((0:Int),(0:Int))).length=x.length:=by simp; omega
  try simp (maxSteps:=9^9) only[go_sem]
  refine CondW_dec (fun hA=>?_) (fun hA=>?_)
  ·have hset:(x.take i++List.replicate (x.length - i) ((0:Int),(0:Int))).set i (nth (t:=DW.tVec) x i)=x.take (i+1)++List.replicate (x.length - (i+1)) ((0:Int),(0:Int)):=by
    have hlt:i < x.length:=by omega
    rw [List.set_append_right _ _ (by rw [List.length_take]; omega),List.length_take,show i - min i x.length=0 by omega,show x.length - i=(x.length - (i+1))+1 by omega,List.replicate_succ,List.set_cons_zero,nth_lt hlt]
    have e:x.take (i+1)=x.take i++[x[i]]:=List.take_succ_eq_append_getElem hlt
    rw [e,List.append_assoc]; rfl
   have ht:(List.take i x).length=i:=by rw [List.length_take]; omega
   have c1:=toDoor_fn (nth (t:=DW.tVec) x i)
   try simp (maxSteps:=9^9) only[go_sem]
   repeat refine AI ?_
   repeat refine AI ?_
   refine cw c1 ?_
   try simp (maxSteps:=9^9) only[go_sem]
   repeat refine AI ?_
   refine LoopK.mk (i+1) ?_ (by omega) (by omega)
   rw [<-hset]
   exact WK
  ·have:x.take i++List.replicate (x.length - i) ((0:Int),(0:Int))=x:=by
    rw [List.take_of_length_le (by omega),show x.length - i=0 by omega]; simp
   rw [this]
   try simp (maxSteps:=9^9) only[go_sem]
   all_goals repeat refine AI ?_
   all_goals first|kernel_rfl|omega|rfl
theorem eqDoor_fn (x y:DVec):Fn Tryz.prog 105 [⟨DW.tVec,x⟩,⟨DW.tVec,y⟩] false [⟨.bool,eqb x y⟩]:=by
 by_cases h1:x.1=y.1
 ·have d1:=decide_eq_true h1
  by_cases h2:x.2=y.2
  ·have d2:=decide_eq_true h2
   rw [eqb_true (Prod.ext h1 h2)]
   refine fe Tryz.func105 Tryz.ntmps105 Tryz.results105 fun hwf=>?_
   try simp (maxSteps:=9^9) only[go_sem,d1,d2]
  ·have d2:=decide_eq_false h2
   rw [eqb_false (fun h=>h2 (by rw [h]))]
   refine fe Tryz.func105 Tryz.ntmps105 Tryz.results105 fun hwf=>?_
   try simp (maxSteps:=9^9) only[go_sem,d1,d2]
 ·have d1:=decide_eq_false h1
  rw [eqb_false (fun h=>h1 (by rw [h]))]
  refine fe Tryz.func105 Tryz.ntmps105 Tryz.results105 fun hwf=>?_
  try simp (maxSteps:=9^9) only[go_sem,d1]
theorem eqDoorS_fn (x y:DVecS):Fn Tryz.prog 81 [⟨.slice DW.tVec,x⟩,⟨.slice DW.tVec,y⟩] false [⟨.bool,eqb x y⟩]:=by
 by_cases h0:(x.length:Int)=y.length
 ·have d0:=decide_eq_true h0
  refine fe Tryz.func81 Tryz.ntmps81 Tryz.results81 fun hwf=>?_
  have hl:x.length<=9223372036854775807:=(hwf ⟨.slice DW.tVec,x⟩ (by simp)).1
  try simp (maxSteps:=9^9) only[go_sem,d0]
  refine LoopG.intro _ _ _ (fun i:Nat=>⟨[(0,.sl DW.tVec x),(1,.sl DW.tVec y),(5,.sc (.int .i64 i))],[]⟩) (fun i=>∀ j,j < i->j < x.length->nth (t:=DW.tVec) x j=nth (t:=DW.tVec) y j) (fun i=>x.length - i) 0 ?_ (fun j h=>absurd h (Nat.not_lt_zero _)) ?_
  ·exact WK
  ·rintro i hi
   try simp (maxSteps:=9^9) only[go_sem]
   refine CondW_dec (fun hA=>?_) (fun hA=>?_)
   ·have c1:=eqDoor_fn (nth (t:=DW.tVec) x i) (nth (t:=DW.tVec) y i)
    by_cases e:nth (t:=DW.tVec) x i=nth (t:=DW.tVec) y i
    ·rw [eqb_true e] at c1
     try simp (maxSteps:=9^9) only[go_sem]
     repeat refine AI ?_
     repeat refine AI ?_
     refine cw c1 ?_
     try simp (maxSteps:=9^9) only[go_sem]
     repeat refine AI ?_
     refine LoopK.mk (i+1) ?_ (fun j h1 h2=>?_) (by omega)
     ·exact WK
     ·by_cases h3:j < i
      ·exact hi j h3 h2
      ·rw [show j=i by omega]; exact e
    ·rw [eqb_false e] at c1
     rw [eqb_false (fun h=>e (by rw [h]))]
     try simp (maxSteps:=9^9) only[go_sem]
     repeat refine AI ?_
     repeat refine AI ?_
     refine cw c1 ?_
     try simp (maxSteps:=9^9) only[go_sem]
     all_goals repeat refine AI ?_
     all_goals first|kernel_rfl|omega|rfl
   ·have:x=y:=by
     refine List.ext_getElem (by omega) fun j h1 h2=>?_
     have:=hi j (by omega) h1
     rwa [nth_lt h1,nth_lt h2] at this
    rw [eqb_true this]
    try simp (maxSteps:=9^9) only[go_sem]
 ·have d0:=decide_eq_false h0
  rw [eqb_false (fun h=>h0 (by rw [h]))]
  refine fe Tryz.func81 Tryz.ntmps81 Tryz.results81 fun hwf=>?_
  try simp (maxSteps:=9^9) only[go_sem,d0]
theorem toBox_fn (x:DBox):Fn Tryz.prog 66 [⟨DW.tBox,x⟩] false [⟨DW.tBox,x⟩]:=by
 obtain ⟨a,b⟩:=x
 have c1:=toVec_fn a
 have c2:=toVec_fn b
 refine fe Tryz.func66 Tryz.ntmps66 Tryz.results66 fun hwf=>?_
 try simp (maxSteps:=9^9) only[go_sem]
 repeat refine AI ?_
 repeat refine AI ?_
 refine cw c1 ?_
 try simp (maxSteps:=9^9) only[go_sem]
 repeat refine AI ?_
 repeat refine AI ?_
 refine cw c2 ?_
 try simp (maxSteps:=9^9) only[go_sem]
 all_goals repeat refine AI ?_
 all_goals first|kernel_rfl|omega|rfl
theorem eqBox_fn (x y:DBox):Fn Tryz.prog 78 [⟨DW.tBox,x⟩,⟨DW.tBox,y⟩] false [⟨.bool,eqb x y⟩]:=by
 obtain ⟨a,b⟩:=x
 obtain ⟨c,d⟩:=y
 have c1:=eqVec_fn a c
 have c2:=eqVec_fn b d
 by_cases e1:a=c
 rotate_left
 ·rw [eqb_false e1] at c1
  rw [eqb_false (fun h=>e1 (congrArg (fun z=>z.1) h))]
  refine fe Tryz.func78 Tryz.ntmps78 Tryz.results78 fun hwf=>?_
  try simp (maxSteps:=9^9) only[go_sem]
  repeat refine AI ?_
  repeat refine AI ?_
  refine cw c1 ?_
  try simp (maxSteps:=9^9) only[go_sem]
  all_goals repeat refine AI ?_
  all_goals first|kernel_rfl|omega|rfl
 rw [eqb_true e1] at c1
 by_cases e2:b=d
 rotate_left
 ·rw [eqb_false e2] at c2
  rw [eqb_false (fun h=>e2 (congrArg (fun z=>z.2) h))]
  refine fe Tryz.func78 Tryz.ntmps78 Tryz.results78 fun hwf=>?_
  try simp (maxSteps:=9^9) only[go_sem]
  repeat refine AI ?_
  repeat refine AI ?_
  refine cw c1 ?_
  try simp (maxSteps:=9^9) only[go_sem]
  repeat refine AI ?_
  repeat refine AI ?_
  refine cw c2 ?_
  try simp (maxSteps:=9^9) only[go_sem]
  all_goals repeat refine AI ?_
  all_goals first|kernel_rfl|omega|rfl
 rw [eqb_true e2] at c2
 rw [eqb_true (by rw [e1,e2])]
 refine fe Tryz.func78 Tryz.ntmps78 Tryz.results78 fun hwf=>?_
 try simp (maxSteps:=9^9) only[go_sem]
 repeat refine AI ?_
 repeat refine AI ?_
 refine cw c1 ?_
 try simp (maxSteps:=9^9) only[go_sem]
 repeat refine AI ?_
 repeat refine AI ?_
 refine cw c2 ?_
 try simp (maxSteps:=9^9) only[go_sem]
 all_goals repeat refine AI ?_
 all_goals first|kernel_rfl|omega|rfl
theorem szCell_fn (x:DCell) (left:Int) (h0:0<=left) (h1:left<=1048576):Fn Tryz.prog 82 [⟨DW.tCell,x⟩,⟨.int,left⟩] false [⟨.int,szr left (Go.Proofs.YtpdiggaapdhffaaGreat.tCell x)⟩]:=by
 obtain ⟨v0,v1,v2,v3,v4,v5⟩:=x
 have hT:Go.Proofs.YtpdiggaapdhffaaGreat.tCell (v0,v1,v2,v3,v4,v5)=Go.Proofs.YtpdiggaapdhffaaGreat.tRat v0+Go.Proofs.YtpdiggaapdhffaaGreat.tRat v1+Go.Proofs.YtpdiggaapdhffaaGreat.tRat v2+Go.Proofs.YtpdiggaapdhffaaGreat.tRat v3+Go.Proofs.YtpdiggaapdhffaaGreat.tRat v4+Go.Proofs.YtpdiggaapdhffaaGreat.tRat v5:=rfl
 have c1:=szRat_fn v0 left h0 h1
 have r1:=szr_lo left (Go.Proofs.YtpdiggaapdhffaaGreat.tRat v0) h0
 by_cases e1:szr left (Go.Proofs.YtpdiggaapdhffaaGreat.tRat v0) < 0
 ·have d1:=decide_eq_true e1
  rw [<-szr_fail e1 (b:=Go.Proofs.YtpdiggaapdhffaaGreat.tCell (v0,v1,v2,v3,v4,v5)) (by omega)]
  refine fe Tryz.func82 Tryz.ntmps82 Tryz.results82 fun hwf=>?_
  try simp (maxSteps:=9^9) only[go_sem]
  repeat refine AI ?_
  repeat refine AI ?_
  refine cw c1 ?_
  try simp (maxSteps:=9^9) only[go_sem]
  try simp (maxSteps:=9^9) only[go_sem,d1]
  all_goals repeat refine AI ?_
  all_goals first|kernel_rfl|omega|rfl
 ·have d1:=decide_eq_false e1
  have c2:=szRat_fn v1 (szr left (Go.Proofs.YtpdiggaapdhffaaGreat.tRat v0)) (by omega) (by omega)
  rw [szr_add _ _ _ (by omega)] at c2
  have r2:=szr_lo left (Go.Proofs.YtpdiggaapdhffaaGreat.tRat v0+Go.Proofs.YtpdiggaapdhffaaGreat.tRat v1) h0
  by_cases e2:szr left (Go.Proofs.YtpdiggaapdhffaaGreat.tRat v0+Go.Proofs.YtpdiggaapdhffaaGreat.tRat v1) < 0
  ·have d2:=decide_eq_true e2
   rw [<-szr_fail e2 (b:=Go.Proofs.YtpdiggaapdhffaaGreat.tCell (v0,v1,v2,v3,v4,v5)) (by omega)]
   refine fe Tryz.func82 Tryz.ntmps82 Tryz.results82 fun hwf=>?_
   try simp (maxSteps:=9^9) only[go_sem]
   repeat refine AI ?_
   repeat refine AI ?_
   refine cw c1 ?_
   try simp (maxSteps:=9^9) only[go_sem]
   try simp (maxSteps:=9^9) only[go_sem,d1]
   repeat refine AI ?_
   repeat refine AI ?_
   refine cw c2 ?_
   try simp (maxSteps:=9^9) only[go_sem]
   try simp (maxSteps:=9^9) only[go_sem,d2]
   all_goals repeat refine AI ?_
   all_goals first|kernel_rfl|omega|rfl
  ·have d2:=decide_eq_false e2
   have c3:=szRat_fn v2 (szr left (Go.Proofs.YtpdiggaapdhffaaGreat.tRat v0+Go.Proofs.YtpdiggaapdhffaaGreat.tRat v1)) (by omega) (by omega)
   rw [szr_add _ _ _ (by omega)] at c3
   have r3:=szr_lo left (Go.Proofs.YtpdiggaapdhffaaGreat.tRat v0+Go.Proofs.YtpdiggaapdhffaaGreat.tRat v1+Go.Proofs.YtpdiggaapdhffaaGreat.tRat v2) h0
   by_cases e3:szr left (Go.Proofs.YtpdiggaapdhffaaGreat.tRat v0+Go.Proofs.YtpdiggaapdhffaaGreat.tRat v1+Go.Proofs.YtpdiggaapdhffaaGreat.tRat v2) < 0
   ·have d3:=decide_eq_true e3
    rw [<-szr_fail e3 (b:=Go.Proofs.YtpdiggaapdhffaaGreat.tCell (v0,v1,v2,v3,v4,v5)) (by omega)]
    refine fe Tryz.func82 Tryz.ntmps82 Tryz.results82 fun hwf=>?_
    try simp (maxSteps:=9^9) only[go_sem]
    repeat refine AI ?_
    repeat refine AI ?_
    refine cw c1 ?_
    try simp (maxSteps:=9^9) only[go_sem]
    try simp (maxSteps:=9^9) only[go_sem,d1]
    repeat refine AI ?_
    repeat refine AI ?_
    refine cw c2 ?_
    try simp (maxSteps:=9^9) only[go_sem]
    try simp (maxSteps:=9^9) only[go_sem,d2]
    repeat refine AI ?_
    repeat refine AI ?_
    refine cw c3 ?_
    try simp (maxSteps:=9^9) only[go_sem]
    try simp (maxSteps:=9^9) only[go_sem,d3]
    all_goals repeat refine AI ?_
    all_goals first|kernel_rfl|omega|rfl
   ·have d3:=decide_eq_false e3
    have c4:=szRat_fn v3 (szr left (Go.Proofs.YtpdiggaapdhffaaGreat.tRat v0+Go.Proofs.YtpdiggaapdhffaaGreat.tRat v1+Go.Proofs.YtpdiggaapdhffaaGreat.tRat v2)) (by omega) (by omega)
    rw [szr_add _ _ _ (by omega)] at c4
    have r4:=szr_lo left (Go.Proofs.YtpdiggaapdhffaaGreat.tRat v0+Go.Proofs.YtpdiggaapdhffaaGreat.tRat v1+Go.Proofs.YtpdiggaapdhffaaGreat.tRat v2+Go.Proofs.YtpdiggaapdhffaaGreat.tRat v3) h0
    by_cases e4:szr left (Go.Proofs.YtpdiggaapdhffaaGreat.tRat v0+Go.Proofs.YtpdiggaapdhffaaGreat.tRat v1+Go.Proofs.YtpdiggaapdhffaaGreat.tRat v2+Go.Proofs.YtpdiggaapdhffaaGreat.tRat v3) < 0
    ·have d4:=decide_eq_true e4
     rw [<-szr_fail e4 (b:=Go.Proofs.YtpdiggaapdhffaaGreat.tCell (v0,v1,v2,v3,v4,v5)) (by omega)]
     refine fe Tryz.func82 Tryz.ntmps82 Tryz.results82 fun hwf=>?_
     try simp (maxSteps:=9^9) only[go_sem]
     repeat refine AI ?_
     repeat refine AI ?_
     refine cw c1 ?_
     try simp (maxSteps:=9^9) only[go_sem]
     try simp (maxSteps:=9^9) only[go_sem,d1]
     repeat refine AI ?_
     repeat refine AI ?_
     refine cw c2 ?_
     try simp (maxSteps:=9^9) only[go_sem]
     try simp (maxSteps:=9^9) only[go_sem,d2]
     repeat refine AI ?_
     repeat refine AI ?_
     refine cw c3 ?_
     try simp (maxSteps:=9^9) only[go_sem]
     try simp (maxSteps:=9^9) only[go_sem,d3]
     repeat refine AI ?_
     repeat refine AI ?_
     refine cw c4 ?_
     try simp (maxSteps:=9^9) only[go_sem]
     try simp (maxSteps:=9^9) only[go_sem,d4]
     all_goals repeat refine AI ?_
     all_goals first|kernel_rfl|omega|rfl
    ·have d4:=decide_eq_false e4
     have c5:=szRat_fn v4 (szr left (Go.Proofs.YtpdiggaapdhffaaGreat.tRat v0+Go.Proofs.YtpdiggaapdhffaaGreat.tRat v1+Go.Proofs.YtpdiggaapdhffaaGreat.tRat v2+Go.Proofs.YtpdiggaapdhffaaGreat.tRat v3)) (by omega) (by omega)
     rw [szr_add _ _ _ (by omega)] at c5
     have r5:=szr_lo left (Go.Proofs.YtpdiggaapdhffaaGreat.tRat v0+Go.Proofs.YtpdiggaapdhffaaGreat.tRat v1+Go.Proofs.YtpdiggaapdhffaaGreat.tRat v2+Go.Proofs.YtpdiggaapdhffaaGreat.tRat v3+Go.Proofs.YtpdiggaapdhffaaGreat.tRat v4) h0
     by_cases e5:szr left (Go.Proofs.YtpdiggaapdhffaaGreat.tRat v0+Go.Proofs.YtpdiggaapdhffaaGreat.tRat v1+Go.Proofs.YtpdiggaapdhffaaGreat.tRat v2+Go.Proofs.YtpdiggaapdhffaaGreat.tRat v3+Go.Proofs.YtpdiggaapdhffaaGreat.tRat v4) < 0
     ·have d5:=decide_eq_true e5
      rw [<-szr_fail e5 (b:=Go.Proofs.YtpdiggaapdhffaaGreat.tCell (v0,v1,v2,v3,v4,v5)) (by omega)]
      refine fe Tryz.func82 Tryz.ntmps82 Tryz.results82 fun hwf=>?_
      try simp (maxSteps:=9^9) only[go_sem]
      repeat refine AI ?_
      repeat refine AI ?_
      refine cw c1 ?_
      try simp (maxSteps:=9^9) only[go_sem]
      try simp (maxSteps:=9^9) only[go_sem,d1]
      repeat refine AI ?_
      repeat refine AI ?_
      refine cw c2 ?_
      try simp (maxSteps:=9^9) only[go_sem]
      try simp (maxSteps:=9^9) only[go_sem,d2]
      repeat refine AI ?_
      repeat refine AI ?_
      refine cw c3 ?_
      try simp (maxSteps:=9^9) only[go_sem]
      try simp (maxSteps:=9^9) only[go_sem,d3]
      repeat refine AI ?_
      repeat refine AI ?_
      refine cw c4 ?_
      try simp (maxSteps:=9^9) only[go_sem]
      try simp (maxSteps:=9^9) only[go_sem,d4]
      repeat refine AI ?_
      repeat refine AI ?_
      refine cw c5 ?_
      try simp (maxSteps:=9^9) only[go_sem]
      try simp (maxSteps:=9^9) only[go_sem,d5]
      all_goals repeat refine AI ?_
      all_goals first|kernel_rfl|omega|rfl
     ·have d5:=decide_eq_false e5
      have c6:=szRat_fn v5 (szr left (Go.Proofs.YtpdiggaapdhffaaGreat.tRat v0+Go.Proofs.YtpdiggaapdhffaaGreat.tRat v1+Go.Proofs.YtpdiggaapdhffaaGreat.tRat v2+Go.Proofs.YtpdiggaapdhffaaGreat.tRat v3+Go.Proofs.YtpdiggaapdhffaaGreat.tRat v4)) (by omega) (by omega)
      rw [szr_add _ _ _ (by omega)] at c6
      have r6:=szr_lo left (Go.Proofs.YtpdiggaapdhffaaGreat.tRat v0+Go.Proofs.YtpdiggaapdhffaaGreat.tRat v1+Go.Proofs.YtpdiggaapdhffaaGreat.tRat v2+Go.Proofs.YtpdiggaapdhffaaGreat.tRat v3+Go.Proofs.YtpdiggaapdhffaaGreat.tRat v4+Go.Proofs.YtpdiggaapdhffaaGreat.tRat v5) h0
      by_cases e6:szr left (Go.Proofs.YtpdiggaapdhffaaGreat.tRat v0+Go.Proofs.YtpdiggaapdhffaaGreat.tRat v1+Go.Proofs.YtpdiggaapdhffaaGreat.tRat v2+Go.Proofs.YtpdiggaapdhffaaGreat.tRat v3+Go.Proofs.YtpdiggaapdhffaaGreat.tRat v4+Go.Proofs.YtpdiggaapdhffaaGreat.tRat v5) < 0
      ·have d6:=decide_eq_true e6
       rw [hT]
       have e0:szr left (Go.Proofs.YtpdiggaapdhffaaGreat.tRat v0+Go.Proofs.YtpdiggaapdhffaaGreat.tRat v1+Go.Proofs.YtpdiggaapdhffaaGreat.tRat v2+Go.Proofs.YtpdiggaapdhffaaGreat.tRat v3+Go.Proofs.YtpdiggaapdhffaaGreat.tRat v4+Go.Proofs.YtpdiggaapdhffaaGreat.tRat v5)=-1:=by omega
       rw [e0] at d6 c6 ⊢
       refine fe Tryz.func82 Tryz.ntmps82 Tryz.results82 fun hwf=>?_
       try simp (maxSteps:=9^9) only[go_sem]
       repeat refine AI ?_
       repeat refine AI ?_
       refine cw c1 ?_
       try simp (maxSteps:=9^9) only[go_sem]
       try simp (maxSteps:=9^9) only[go_sem,d1]
       repeat refine AI ?_
       repeat refine AI ?_
       refine cw c2 ?_
       try simp (maxSteps:=9^9) only[go_sem]
       try simp (maxSteps:=9^9) only[go_sem,d2]
       repeat refine AI ?_
       repeat refine AI ?_
       refine cw c3 ?_
       try simp (maxSteps:=9^9) only[go_sem]
       try simp (maxSteps:=9^9) only[go_sem,d3]
       repeat refine AI ?_
       repeat refine AI ?_
       refine cw c4 ?_
       try simp (maxSteps:=9^9) only[go_sem]
       try simp (maxSteps:=9^9) only[go_sem,d4]
       repeat refine AI ?_
       repeat refine AI ?_
       refine cw c5 ?_
       try simp (maxSteps:=9^9) only[go_sem]
       try simp (maxSteps:=9^9) only[go_sem,d5]
       repeat refine AI ?_
       repeat refine AI ?_
       refine cw c6 ?_
       try simp (maxSteps:=9^9) only[go_sem]
       try simp (maxSteps:=9^9) only[go_sem,d6]
       all_goals repeat refine AI ?_
       all_goals first|kernel_rfl|omega|rfl
      ·have d6:=decide_eq_false e6
       rw [hT]
       refine fe Tryz.func82 Tryz.ntmps82 Tryz.results82 fun hwf=>?_
       try simp (maxSteps:=9^9) only[go_sem]
       repeat refine AI ?_
       repeat refine AI ?_
       refine cw c1 ?_
       try simp (maxSteps:=9^9) only[go_sem]
       try simp (maxSteps:=9^9) only[go_sem,d1]
       repeat refine AI ?_
       repeat refine AI ?_
       refine cw c2 ?_
       try simp (maxSteps:=9^9) only[go_sem]
       try simp (maxSteps:=9^9) only[go_sem,d2]
       repeat refine AI ?_
       repeat refine AI ?_
       refine cw c3 ?_
       try simp (maxSteps:=9^9) only[go_sem]
       try simp (maxSteps:=9^9) only[go_sem,d3]
       repeat refine AI ?_
       repeat refine AI ?_
       refine cw c4 ?_
       try simp (maxSteps:=9^9) only[go_sem]
       try simp (maxSteps:=9^9) only[go_sem,d4]
       repeat refine AI ?_
       repeat refine AI ?_
       refine cw c5 ?_
       try simp (maxSteps:=9^9) only[go_sem]
       try simp (maxSteps:=9^9) only[go_sem,d5]
       repeat refine AI ?_
       repeat refine AI ?_
       refine cw c6 ?_
       try simp (maxSteps:=9^9) only[go_sem]
       try simp (maxSteps:=9^9) only[go_sem,d6]
       all_goals repeat refine AI ?_
       all_goals first|kernel_rfl|omega|rfl
theorem toCell_fn (x:DCell) (hs:Go.Proofs.YtpdiggaapdhffaaGreat.tCell x<=1048576):Fn Tryz.prog 91 [⟨DW.tCell,x⟩] true [⟨DW.tCell,x⟩]:=by
 obtain ⟨v0,v1,v2,v3,v4,v5⟩:=x
 have hT:Go.Proofs.YtpdiggaapdhffaaGreat.tCell (v0,v1,v2,v3,v4,v5)=Go.Proofs.YtpdiggaapdhffaaGreat.tRat v0+Go.Proofs.YtpdiggaapdhffaaGreat.tRat v1+Go.Proofs.YtpdiggaapdhffaaGreat.tRat v2+Go.Proofs.YtpdiggaapdhffaaGreat.tRat v3+Go.Proofs.YtpdiggaapdhffaaGreat.tRat v4+Go.Proofs.YtpdiggaapdhffaaGreat.tRat v5:=rfl
 have c0:=toRat_fn v0 (by omega)
 have c1:=toRat_fn v1 (by omega)
 have c2:=toRat_fn v2 (by omega)
 have c3:=toRat_fn v3 (by omega)
 have c4:=toRat_fn v4 (by omega)
 have c5:=toRat_fn v5 (by omega)
 refine fe Tryz.func91 Tryz.ntmps91 Tryz.results91 fun hwf=>?_
 try simp (maxSteps:=9^9) only[go_sem]
 repeat refine AI ?_
 repeat refine AI ?_
 refine cw c0 ?_
 try simp (maxSteps:=9^9) only[go_sem]
 repeat refine AI ?_
 repeat refine AI ?_
 refine cw c1 ?_
 try simp (maxSteps:=9^9) only[go_sem]
 repeat refine AI ?_
 repeat refine AI ?_
 refine cw c2 ?_
 try simp (maxSteps:=9^9) only[go_sem]
 repeat refine AI ?_
 repeat refine AI ?_
 refine cw c3 ?_
 try simp (maxSteps:=9^9) only[go_sem]
 repeat refine AI ?_
 repeat refine AI ?_
 refine cw c4 ?_
 try simp (maxSteps:=9^9) only[go_sem]
 repeat refine AI ?_
 repeat refine AI ?_
 refine cw c5 ?_
 try simp (maxSteps:=9^9) only[go_sem]
 all_goals repeat refine AI ?_
 all_goals first|kernel_rfl|omega|rfl
theorem eqCell_fn (x y:DCell):Fn Tryz.prog 103 [⟨DW.tCell,x⟩,⟨DW.tCell,y⟩] false [⟨.bool,eqb x y⟩]:=by
 obtain ⟨v0,v1,v2,v3,v4,v5⟩:=x
 obtain ⟨w0,w1,w2,w3,w4,w5⟩:=y
 have c0:=eqRat_fn v0 w0
 have c1:=eqRat_fn v1 w1
 have c2:=eqRat_fn v2 w2
 have c3:=eqRat_fn v3 w3
 have c4:=eqRat_fn v4 w4
 have c5:=eqRat_fn v5 w5
 by_cases e0:v0=w0
 rotate_left
 ·rw [eqb_false e0] at c0
  rw [eqb_false (fun h=>e0 (congrArg (fun z=>z.1) h))]
  refine fe Tryz.func103 Tryz.ntmps103 Tryz.results103 fun hwf=>?_
  try simp (maxSteps:=9^9) only[go_sem]
  repeat refine AI ?_
  repeat refine AI ?_
  refine cw c0 ?_
  try simp (maxSteps:=9^9) only[go_sem]
  all_goals repeat refine AI ?_
  all_goals first|kernel_rfl|omega|rfl
 rw [eqb_true e0] at c0
 by_cases e1:v1=w1
 rotate_left
 ·rw [eqb_false e1] at c1
  rw [eqb_false (fun h=>e1 (congrArg (fun z=>z.2.1) h))]
  refine fe Tryz.func103 Tryz.ntmps103 Tryz.results103 fun hwf=>?_
  try simp (maxSteps:=9^9) only[go_sem]
  repeat refine AI ?_
  repeat refine AI ?_
  refine cw c0 ?_
  try simp (maxSteps:=9^9) only[go_sem]
  repeat refine AI ?_
  repeat refine AI ?_
  refine cw c1 ?_
  try simp (maxSteps:=9^9) only[go_sem]
  all_goals repeat refine AI ?_
  all_goals first|kernel_rfl|omega|rfl
 rw [eqb_true e1] at c1
 by_cases e2:v2=w2
 rotate_left
 ·rw [eqb_false e2] at c2
  rw [eqb_false (fun h=>e2 (congrArg (fun z=>z.2.2.1) h))]
  refine fe Tryz.func103 Tryz.ntmps103 Tryz.results103 fun hwf=>?_
  try simp (maxSteps:=9^9) only[go_sem]
  repeat refine AI ?_
  repeat refine AI ?_
  refine cw c0 ?_
  try simp (maxSteps:=9^9) only[go_sem]
  repeat refine AI ?_
  repeat refine AI ?_
  refine cw c1 ?_
  try simp (maxSteps:=9^9) only[go_sem]
  repeat refine AI ?_
  repeat refine AI ?_
  refine cw c2 ?_
  try simp (maxSteps:=9^9) only[go_sem]
  all_goals repeat refine AI ?_
  all_goals first|kernel_rfl|omega|rfl
 rw [eqb_true e2] at c2
 by_cases e3:v3=w3
 rotate_left
 ·rw [eqb_false e3] at c3
  rw [eqb_false (fun h=>e3 (congrArg (fun z=>z.2.2.2.1) h))]
  refine fe Tryz.func103 Tryz.ntmps103 Tryz.results103 fun hwf=>?_
  try simp (maxSteps:=9^9) only[go_sem]
  repeat refine AI ?_
  repeat refine AI ?_
  refine cw c0 ?_
  try simp (maxSteps:=9^9) only[go_sem]
  repeat refine AI ?_
  repeat refine AI ?_
  refine cw c1 ?_
  try simp (maxSteps:=9^9) only[go_sem]
  repeat refine AI ?_
  repeat refine AI ?_
  refine cw c2 ?_
  try simp (maxSteps:=9^9) only[go_sem]
  repeat refine AI ?_
  repeat refine AI ?_
  refine cw c3 ?_
  try simp (maxSteps:=9^9) only[go_sem]
  all_goals repeat refine AI ?_
  all_goals first|kernel_rfl|omega|rfl
 rw [eqb_true e3] at c3
 by_cases e4:v4=w4
 rotate_left
 ·rw [eqb_false e4] at c4
  rw [eqb_false (fun h=>e4 (congrArg (fun z=>z.2.2.2.2.1) h))]
  refine fe Tryz.func103 Tryz.ntmps103 Tryz.results103 fun hwf=>?_
  try simp (maxSteps:=9^9) only[go_sem]
  repeat refine AI ?_
  repeat refine AI ?_
  refine cw c0 ?_
  try simp (maxSteps:=9^9) only[go_sem]
  repeat refine AI ?_
  repeat refine AI ?_
  refine cw c1 ?_
  try simp (maxSteps:=9^9) only[go_sem]
  repeat refine AI ?_
  repeat refine AI ?_
  refine cw c2 ?_
  try simp (maxSteps:=9^9) only[go_sem]
  repeat refine AI ?_
  repeat refine AI ?_
  refine cw c3 ?_
  try simp (maxSteps:=9^9) only[go_sem]
  repeat refine AI ?_
  repeat refine AI ?_
  refine cw c4 ?_
  try simp (maxSteps:=9^9) only[go_sem]
  all_goals repeat refine AI ?_
  all_goals first|kernel_rfl|omega|rfl
 rw [eqb_true e4] at c4
 by_cases e5:v5=w5
 rotate_left
 ·rw [eqb_false e5] at c5
  rw [eqb_false (fun h=>e5 (congrArg (fun z=>z.2.2.2.2.2) h))]
  refine fe Tryz.func103 Tryz.ntmps103 Tryz.results103 fun hwf=>?_
  try simp (maxSteps:=9^9) only[go_sem]
  repeat refine AI ?_
  repeat refine AI ?_
  refine cw c0 ?_
  try simp (maxSteps:=9^9) only[go_sem]
  repeat refine AI ?_
  repeat refine AI ?_
  refine cw c1 ?_
  try simp (maxSteps:=9^9) only[go_sem]
  repeat refine AI ?_
  repeat refine AI ?_
  refine cw c2 ?_
  try simp (maxSteps:=9^9) only[go_sem]
  repeat refine AI ?_
  repeat refine AI ?_
  refine cw c3 ?_
  try simp (maxSteps:=9^9) only[go_sem]
  repeat refine AI ?_
  repeat refine AI ?_
  refine cw c4 ?_
  try simp (maxSteps:=9^9) only[go_sem]
  repeat refine AI ?_
  repeat refine AI ?_
  refine cw c5 ?_
  try simp (maxSteps:=9^9) only[go_sem]
  all_goals repeat refine AI ?_
  all_goals first|kernel_rfl|omega|rfl
 rw [eqb_true e5] at c5
 rw [eqb_true (by rw [e0,e1,e2,e3,e4,e5])]
 refine fe Tryz.func103 Tryz.ntmps103 Tryz.results103 fun hwf=>?_
 try simp (maxSteps:=9^9) only[go_sem]
 repeat refine AI ?_
 repeat refine AI ?_
 refine cw c0 ?_
 try simp (maxSteps:=9^9) only[go_sem]
 repeat refine AI ?_
 repeat refine AI ?_
 refine cw c1 ?_
 try simp (maxSteps:=9^9) only[go_sem]
 repeat refine AI ?_
 repeat refine AI ?_
 refine cw c2 ?_
 try simp (maxSteps:=9^9) only[go_sem]
 repeat refine AI ?_
 repeat refine AI ?_
 refine cw c3 ?_
 try simp (maxSteps:=9^9) only[go_sem]
 repeat refine AI ?_
 repeat refine AI ?_
 refine cw c4 ?_
 try simp (maxSteps:=9^9) only[go_sem]
 repeat refine AI ?_
 repeat refine AI ?_
 refine cw c5 ?_
 try simp (maxSteps:=9^9) only[go_sem]
 all_goals repeat refine AI ?_
 all_goals first|kernel_rfl|omega|rfl
theorem szWall_fn (x:DWall) (left:Int) (h0:0<=left) (h1:left<=1048576):Fn Tryz.prog 83 [⟨DW.tWall,x⟩,⟨.int,left⟩] false [⟨.int,szr left (Go.Proofs.YtpdiggaapdhffaaGreat.tWall x)⟩]:=by
 obtain ⟨v0,v1,v2⟩:=x
 have hT:Go.Proofs.YtpdiggaapdhffaaGreat.tWall (v0,v1,v2)=Go.Proofs.YtpdiggaapdhffaaGreat.tRat v0+Go.Proofs.YtpdiggaapdhffaaGreat.tRat v1+Go.Proofs.YtpdiggaapdhffaaGreat.tRat v2:=rfl
 have c1:=szRat_fn v0 left h0 h1
 have r1:=szr_lo left (Go.Proofs.YtpdiggaapdhffaaGreat.tRat v0) h0
 by_cases e1:szr left (Go.Proofs.YtpdiggaapdhffaaGreat.tRat v0) < 0
 ·have d1:=decide_eq_true e1
  rw [<-szr_fail e1 (b:=Go.Proofs.YtpdiggaapdhffaaGreat.tWall (v0,v1,v2)) (by omega)]
  refine fe Tryz.func83 Tryz.ntmps83 Tryz.results83 fun hwf=>?_
  try simp (maxSteps:=9^9) only[go_sem]
  repeat refine AI ?_
  repeat refine AI ?_
  refine cw c1 ?_
  try simp (maxSteps:=9^9) only[go_sem]
  try simp (maxSteps:=9^9) only[go_sem,d1]
  all_goals repeat refine AI ?_
  all_goals first|kernel_rfl|omega|rfl
 ·have d1:=decide_eq_false e1
  have c2:=szRat_fn v1 (szr left (Go.Proofs.YtpdiggaapdhffaaGreat.tRat v0)) (by omega) (by omega)
  rw [szr_add _ _ _ (by omega)] at c2
  have r2:=szr_lo left (Go.Proofs.YtpdiggaapdhffaaGreat.tRat v0+Go.Proofs.YtpdiggaapdhffaaGreat.tRat v1) h0
  by_cases e2:szr left (Go.Proofs.YtpdiggaapdhffaaGreat.tRat v0+Go.Proofs.YtpdiggaapdhffaaGreat.tRat v1) < 0
  ·have d2:=decide_eq_true e2
   rw [<-szr_fail e2 (b:=Go.Proofs.YtpdiggaapdhffaaGreat.tWall (v0,v1,v2)) (by omega)]
   refine fe Tryz.func83 Tryz.ntmps83 Tryz.results83 fun hwf=>?_
   try simp (maxSteps:=9^9) only[go_sem]
   repeat refine AI ?_
   repeat refine AI ?_
   refine cw c1 ?_
   try simp (maxSteps:=9^9) only[go_sem]
   try simp (maxSteps:=9^9) only[go_sem,d1]
   repeat refine AI ?_
   repeat refine AI ?_
   refine cw c2 ?_
   try simp (maxSteps:=9^9) only[go_sem]
   try simp (maxSteps:=9^9) only[go_sem,d2]
   all_goals repeat refine AI ?_
   all_goals first|kernel_rfl|omega|rfl
  ·have d2:=decide_eq_false e2
   have c3:=szRat_fn v2 (szr left (Go.Proofs.YtpdiggaapdhffaaGreat.tRat v0+Go.Proofs.YtpdiggaapdhffaaGreat.tRat v1)) (by omega) (by omega)
   rw [szr_add _ _ _ (by omega)] at c3
   have r3:=szr_lo left (Go.Proofs.YtpdiggaapdhffaaGreat.tRat v0+Go.Proofs.YtpdiggaapdhffaaGreat.tRat v1+Go.Proofs.YtpdiggaapdhffaaGreat.tRat v2) h0
   by_cases e3:szr left (Go.Proofs.YtpdiggaapdhffaaGreat.tRat v0+Go.Proofs.YtpdiggaapdhffaaGreat.tRat v1+Go.Proofs.YtpdiggaapdhffaaGreat.tRat v2) < 0
   ·have d3:=decide_eq_true e3
    rw [hT]
    have e0:szr left (Go.Proofs.YtpdiggaapdhffaaGreat.tRat v0+Go.Proofs.YtpdiggaapdhffaaGreat.tRat v1+Go.Proofs.YtpdiggaapdhffaaGreat.tRat v2)=-1:=by omega
    rw [e0] at d3 c3 ⊢
    refine fe Tryz.func83 Tryz.ntmps83 Tryz.results83 fun hwf=>?_
    try simp (maxSteps:=9^9) only[go_sem]
    repeat refine AI ?_
    repeat refine AI ?_
    refine cw c1 ?_
    try simp (maxSteps:=9^9) only[go_sem]
    try simp (maxSteps:=9^9) only[go_sem,d1]
    repeat refine AI ?_
    repeat refine AI ?_
    refine cw c2 ?_
    try simp (maxSteps:=9^9) only[go_sem]
    try simp (maxSteps:=9^9) only[go_sem,d2]
    repeat refine AI ?_
    repeat refine AI ?_
    refine cw c3 ?_
    try simp (maxSteps:=9^9) only[go_sem]
    try simp (maxSteps:=9^9) only[go_sem,d3]
    all_goals repeat refine AI ?_
    all_goals first|kernel_rfl|omega|rfl
   ·have d3:=decide_eq_false e3
    rw [hT]
    refine fe Tryz.func83 Tryz.ntmps83 Tryz.results83 fun hwf=>?_
    try simp (maxSteps:=9^9) only[go_sem]
    repeat refine AI ?_
    repeat refine AI ?_
    refine cw c1 ?_
    try simp (maxSteps:=9^9) only[go_sem]
    try simp (maxSteps:=9^9) only[go_sem,d1]
    repeat refine AI ?_
    repeat refine AI ?_
    refine cw c2 ?_
    try simp (maxSteps:=9^9) only[go_sem]
    try simp (maxSteps:=9^9) only[go_sem,d2]
    repeat refine AI ?_
    repeat refine AI ?_
    refine cw c3 ?_
    try simp (maxSteps:=9^9) only[go_sem]
    try simp (maxSteps:=9^9) only[go_sem,d3]
    all_goals repeat refine AI ?_
    all_goals first|kernel_rfl|omega|rfl
theorem toWall_fn (x:DWall) (hs:Go.Proofs.YtpdiggaapdhffaaGreat.tWall x<=1048576):Fn Tryz.prog 92 [⟨DW.tWall,x⟩] true [⟨DW.tWall,x⟩]:=by
 obtain ⟨v0,v1,v2⟩:=x
 have hT:Go.Proofs.YtpdiggaapdhffaaGreat.tWall (v0,v1,v2)=Go.Proofs.YtpdiggaapdhffaaGreat.tRat v0+Go.Proofs.YtpdiggaapdhffaaGreat.tRat v1+Go.Proofs.YtpdiggaapdhffaaGreat.tRat v2:=rfl
 have c0:=toRat_fn v0 (by omega)
 have c1:=toRat_fn v1 (by omega)
 have c2:=toRat_fn v2 (by omega)
 refine fe Tryz.func92 Tryz.ntmps92 Tryz.results92 fun hwf=>?_
 try simp (maxSteps:=9^9) only[go_sem]
 repeat refine AI ?_
 repeat refine AI ?_
 refine cw c0 ?_
 try simp (maxSteps:=9^9) only[go_sem]
 repeat refine AI ?_
 repeat refine AI ?_
 refine cw c1 ?_
 try simp (maxSteps:=9^9) only[go_sem]
 repeat refine AI ?_
 repeat refine AI ?_
 refine cw c2 ?_
 try simp (maxSteps:=9^9) only[go_sem]
 all_goals repeat refine AI ?_
 all_goals first|kernel_rfl|omega|rfl
theorem eqWall_fn (x y:DWall):Fn Tryz.prog 104 [⟨DW.tWall,x⟩,⟨DW.tWall,y⟩] false [⟨.bool,eqb x y⟩]:=by
 obtain ⟨v0,v1,v2⟩:=x
 obtain ⟨w0,w1,w2⟩:=y
 have c0:=eqRat_fn v0 w0
 have c1:=eqRat_fn v1 w1
 have c2:=eqRat_fn v2 w2
 by_cases e0:v0=w0
 rotate_left
 ·rw [eqb_false e0] at c0
  rw [eqb_false (fun h=>e0 (congrArg (fun z=>z.1) h))]
  refine fe Tryz.func104 Tryz.ntmps104 Tryz.results104 fun hwf=>?_
  try simp (maxSteps:=9^9) only[go_sem]
  repeat refine AI ?_
  repeat refine AI ?_
  refine cw c0 ?_
  try simp (maxSteps:=9^9) only[go_sem]
  all_goals repeat refine AI ?_
  all_goals first|kernel_rfl|omega|rfl
 rw [eqb_true e0] at c0
 by_cases e1:v1=w1
 rotate_left
 ·rw [eqb_false e1] at c1
  rw [eqb_false (fun h=>e1 (congrArg (fun z=>z.2.1) h))]
  refine fe Tryz.func104 Tryz.ntmps104 Tryz.results104 fun hwf=>?_
  try simp (maxSteps:=9^9) only[go_sem]
  repeat refine AI ?_
  repeat refine AI ?_
  refine cw c0 ?_
  try simp (maxSteps:=9^9) only[go_sem]
  repeat refine AI ?_
  repeat refine AI ?_
  refine cw c1 ?_
  try simp (maxSteps:=9^9) only[go_sem]
  all_goals repeat refine AI ?_
  all_goals first|kernel_rfl|omega|rfl
 rw [eqb_true e1] at c1
 by_cases e2:v2=w2
 rotate_left
 ·rw [eqb_false e2] at c2
  rw [eqb_false (fun h=>e2 (congrArg (fun z=>z.2.2) h))]
  refine fe Tryz.func104 Tryz.ntmps104 Tryz.results104 fun hwf=>?_
  try simp (maxSteps:=9^9) only[go_sem]
  repeat refine AI ?_
  repeat refine AI ?_
  refine cw c0 ?_
  try simp (maxSteps:=9^9) only[go_sem]
  repeat refine AI ?_
  repeat refine AI ?_
  refine cw c1 ?_
  try simp (maxSteps:=9^9) only[go_sem]
  repeat refine AI ?_
  repeat refine AI ?_
  refine cw c2 ?_
  try simp (maxSteps:=9^9) only[go_sem]
  all_goals repeat refine AI ?_
  all_goals first|kernel_rfl|omega|rfl
 rw [eqb_true e2] at c2
 rw [eqb_true (by rw [e0,e1,e2])]
 refine fe Tryz.func104 Tryz.ntmps104 Tryz.results104 fun hwf=>?_
 try simp (maxSteps:=9^9) only[go_sem]
 repeat refine AI ?_
 repeat refine AI ?_
 refine cw c0 ?_
 try simp (maxSteps:=9^9) only[go_sem]
 repeat refine AI ?_
 repeat refine AI ?_
 refine cw c1 ?_
 try simp (maxSteps:=9^9) only[go_sem]
 repeat refine AI ?_
 repeat refine AI ?_
 refine cw c2 ?_
 try simp (maxSteps:=9^9) only[go_sem]
 all_goals repeat refine AI ?_
 all_goals first|kernel_rfl|omega|rfl
theorem szCellS_fn (x:DCellS) (left:Int) (h0:0<=left) (h1:left<=1048576):Fn Tryz.prog 58 [⟨.slice DW.tCell,x⟩,⟨.int,left⟩] false [⟨.int,szr left (x.length+Go.Proofs.YtpdiggaapdhffaaGreat.tCellS x)⟩]:=by
 by_cases h:left - (x.length:Int) < 0
 ·rw [<-szr_lt (by omega)]
  have d:=decide_eq_true h
  refine fe Tryz.func58 Tryz.ntmps58 Tryz.results58 fun hwf=>?_
  have hl:x.length<=9223372036854775807:=(hwf ⟨.slice DW.tCell,x⟩ (by simp)).1
  try simp (maxSteps:=9^9) only[go_sem]
  repeat refine AI ?_
  try simp (maxSteps:=9^9) only[go_sem,d]
  all_goals repeat refine AI ?_
  all_goals first|kernel_rfl|omega|rfl
 ·have d:=decide_eq_false h
  have hr0:=szr_lo left (x.length+Go.Proofs.YtpdiggaapdhffaaGreat.tCellS x) h0
  refine fe Tryz.func58 Tryz.ntmps58 Tryz.results58 fun hwf=>?_
  have hl:x.length<=9223372036854775807:=(hwf ⟨.slice DW.tCell,x⟩ (by simp)).1
  try simp (maxSteps:=9^9) only[go_sem]
  repeat refine AI ?_
  try simp (maxSteps:=9^9) only[go_sem,d]
  refine LoopG.intro _ _ _ (fun i:Nat=>⟨[(0,.sl DW.tCell x),(1,.sc (.int .i64 (szr left (x.length+Go.Proofs.YtpdiggaapdhffaaGreat.tCellS (x.take i))))),(5,.sc (.int .i64 i))],[]⟩) (fun i=>i<=x.length/\0<=szr left (x.length+Go.Proofs.YtpdiggaapdhffaaGreat.tCellS (x.take i))) (fun i=>x.length - i) 0 ?_ ⟨Nat.zero_le _,by
   have e:szr left (x.length+Go.Proofs.YtpdiggaapdhffaaGreat.tCellS (x.take 0))=left - x.length:=by simp [Go.Proofs.YtpdiggaapdhffaaGreat.tCellS]; exact (szr_ge (by omega)).symm
   rw [e]; omega⟩ ?_
  ·have e:szr left (x.length+Go.Proofs.YtpdiggaapdhffaaGreat.tCellS (x.take 0))=left - x.length:=by simp [Go.Proofs.YtpdiggaapdhffaaGreat.tCellS]; exact (szr_ge (by omega)).symm
   rw [e]
   exact WK
  ·rintro i ⟨hi,hle⟩
   have hr1:=szr_lo left (x.length+Go.Proofs.YtpdiggaapdhffaaGreat.tCellS (x.take i)) h0
   try simp (maxSteps:=9^9) only[go_sem]
   refine CondW_dec (fun hA=>?_) (fun hA=>?_)
   ·have hlt:i < x.length:=by omega
    have hts:Go.Proofs.YtpdiggaapdhffaaGreat.tCellS (x.take i)+Go.Proofs.YtpdiggaapdhffaaGreat.tCell x[i]=Go.Proofs.YtpdiggaapdhffaaGreat.tCellS (x.take (i+1)):=by rw [List.take_succ_eq_append_getElem hlt,tCellS_snoc]
    have c1:=szCell_fn (nth (t:=DW.tCell) x i) (szr left (x.length+Go.Proofs.YtpdiggaapdhffaaGreat.tCellS (x.take i))) hle (by omega)
    rw [nth_lt hlt,szr_add _ _ _ hle,Nat.add_assoc,hts] at c1
    rw [<-nth_lt (t:=DW.tCell) hlt] at c1
    have hr2:=szr_lo left (x.length+Go.Proofs.YtpdiggaapdhffaaGreat.tCellS (x.take (i+1))) h0
    by_cases e1:szr left (x.length+Go.Proofs.YtpdiggaapdhffaaGreat.tCellS (x.take (i+1))) < 0
    ·have d1:=decide_eq_true e1
     have hf:=szr_fail e1 (b:=x.length+Go.Proofs.YtpdiggaapdhffaaGreat.tCellS x) (Nat.add_le_add_left (tCellS_take x (i+1)) _)
     rw [<-hf]
     try simp (maxSteps:=9^9) only[go_sem]
     repeat refine AI ?_
     repeat refine AI ?_
     refine cw c1 ?_
     try simp (maxSteps:=9^9) only[go_sem]
     try simp (maxSteps:=9^9) only[go_sem,d1]
     all_goals repeat refine AI ?_
     all_goals first|kernel_rfl|omega|rfl
    ·have d1:=decide_eq_false e1
     try simp (maxSteps:=9^9) only[go_sem]
     repeat refine AI ?_
     repeat refine AI ?_
     refine cw c1 ?_
     try simp (maxSteps:=9^9) only[go_sem]
     try simp (maxSteps:=9^9) only[go_sem,d1]
     repeat refine AI ?_
     refine LoopK.mk (i+1) ?_ ⟨by omega,by omega⟩ (by omega)
     exact WK
   ·have hi2:i=x.length:=by omega
    subst hi2
    rw [List.take_length] at hr1 ⊢
    try simp (maxSteps:=9^9) only[go_sem]
    all_goals repeat refine AI ?_
    all_goals first|kernel_rfl|omega|rfl
theorem toCellS_fn (x:DCellS) (hs:x.length+Go.Proofs.YtpdiggaapdhffaaGreat.tCellS x<=1048576):Fn Tryz.prog 67 [⟨.slice DW.tCell,x⟩] true [⟨.slice DW.tCell,x⟩]:=by
 refine fe Tryz.func67 Tryz.ntmps67 Tryz.results67 fun hwf=>?_
 try simp (maxSteps:=9^9) only[go_sem]
 repeat refine AI ?_
 refine LoopG.intro _ _ _ (fun i:Nat=>⟨[(0,.sl DW.tCell x),(3,.row 0 0),(4,.sc (.int .i64 i))],[(0,.row 125 DW.tCell 0 true (x.take i++List.replicate (x.length - i) ((((false,[]),[]),((false,[]),[]),((false,[]),[]),((false,[]),[]),((false,[]),[]),((false,[]),[])):DCell)))]⟩) (fun i=>i<=x.length) (fun i=>x.length - i) 0 ?_ (Nat.zero_le _) ?_
 ·exact WK
 ·rintro i hi
  have hlen:(x.take i++List.replicate (x.length - i) ((((false,[]),[]),((false,[]),[]),((false,[]),[]),((false,[]),[]),((false,[]),[]),((false,[]),[])):DCell)).length=x.length:=by simp; omega
  try simp (maxSteps:=9^9) only[go_sem]
  refine CondW_dec (fun hA=>?_) (fun hA=>?_)
  ·have hlt:i < x.length:=by omega
   have hset:(x.take i++List.replicate (x.length - i) ((((false,[]),[]),((false,[]),[]),((false,[]),[]),((false,[]),[]),((false,[]),[]),((false,[]),[])):DCell)).set i (nth (t:=DW.tCell) x i)=x.take (i+1)++List.replicate (x.length - (i+1)) ((((false,[]),[]),((false,[]),[]),((false,[]),[]),((false,[]),[]),((false,[]),[]),((false,[]),[])):DCell):=by
    rw [List.set_append_right _ _ (by rw [List.length_take]; omega),List.length_take,show i - min i x.length=0 by omega,show x.length - i=(x.length - (i+1))+1 by omega,List.replicate_succ,List.set_cons_zero,nth_lt hlt]
    have e:x.take (i+1)=x.take i++[x[i]]:=List.take_succ_eq_append_getElem hlt
    rw [e,List.append_assoc]; rfl
   have ht:(List.take i x).length=i:=by rw [List.length_take]; omega
   have c1:=toCell_fn (nth (t:=DW.tCell) x i) (by rw [nth_lt hlt]; have:=tCellS_mem hlt; omega)
   try simp (maxSteps:=9^9) only[go_sem]
   repeat refine AI ?_
   repeat refine AI ?_
   refine cw c1 ?_
   try simp (maxSteps:=9^9) only[go_sem]
   repeat refine AI ?_
   refine LoopK.mk (i+1) ?_ (by omega) (by omega)
   rw [<-hset]
   exact WK
  ·have:x.take i++List.replicate (x.length - i) ((((false,[]),[]),((false,[]),[]),((false,[]),[]),((false,[]),[]),((false,[]),[]),((false,[]),[])):DCell)=x:=by
    rw [List.take_of_length_le (by omega),show x.length - i=0 by omega]; simp
   rw [this]
   try simp (maxSteps:=9^9) only[go_sem]
   all_goals repeat refine AI ?_
   all_goals first|kernel_rfl|omega|rfl
theorem eqCellS_fn (x y:DCellS):Fn Tryz.prog 79 [⟨.slice DW.tCell,x⟩,⟨.slice DW.tCell,y⟩] false [⟨.bool,eqb x y⟩]:=by
 by_cases h0:(x.length:Int)=y.length
 ·have d0:=decide_eq_true h0
  refine fe Tryz.func79 Tryz.ntmps79 Tryz.results79 fun hwf=>?_
  have hl:x.length<=9223372036854775807:=(hwf ⟨.slice DW.tCell,x⟩ (by simp)).1
  try simp (maxSteps:=9^9) only[go_sem,d0]
  refine LoopG.intro _ _ _ (fun i:Nat=>⟨[(0,.sl DW.tCell x),(1,.sl DW.tCell y),(5,.sc (.int .i64 i))],[]⟩) (fun i=>∀ j,j < i->j < x.length->nth (t:=DW.tCell) x j=nth (t:=DW.tCell) y j) (fun i=>x.length - i) 0 ?_ (fun j h=>absurd h (Nat.not_lt_zero _)) ?_
  ·exact WK
  ·rintro i hi
   try simp (maxSteps:=9^9) only[go_sem]
   refine CondW_dec (fun hA=>?_) (fun hA=>?_)
   ·have c1:=eqCell_fn (nth (t:=DW.tCell) x i) (nth (t:=DW.tCell) y i)
    by_cases e:nth (t:=DW.tCell) x i=nth (t:=DW.tCell) y i
    ·rw [eqb_true e] at c1
     try simp (maxSteps:=9^9) only[go_sem]
     repeat refine AI ?_
     repeat refine AI ?_
     refine cw c1 ?_
     try simp (maxSteps:=9^9) only[go_sem]
     repeat refine AI ?_
     refine LoopK.mk (i+1) ?_ (fun j h1 h2=>?_) (by omega)
     ·exact WK
     ·by_cases h3:j < i
      ·exact hi j h3 h2
      ·rw [show j=i by omega]; exact e
    ·rw [eqb_false e] at c1
     rw [eqb_false (fun h=>e (by rw [h]))]
     try simp (maxSteps:=9^9) only[go_sem]
     repeat refine AI ?_
     repeat refine AI ?_
     refine cw c1 ?_
     try simp (maxSteps:=9^9) only[go_sem]
     all_goals repeat refine AI ?_
     all_goals first|kernel_rfl|omega|rfl
   ·have:x=y:=by
     refine List.ext_getElem (by omega) fun j h1 h2=>?_
     have:=hi j (by omega) h1
     rwa [nth_lt h1,nth_lt h2] at this
    rw [eqb_true this]
    try simp (maxSteps:=9^9) only[go_sem]
 ·have d0:=decide_eq_false h0
  rw [eqb_false (fun h=>h0 (by rw [h]))]
  refine fe Tryz.func79 Tryz.ntmps79 Tryz.results79 fun hwf=>?_
  try simp (maxSteps:=9^9) only[go_sem,d0]
theorem szWallS_fn (x:DWallS) (left:Int) (h0:0<=left) (h1:left<=1048576):Fn Tryz.prog 59 [⟨.slice DW.tWall,x⟩,⟨.int,left⟩] false [⟨.int,szr left (x.length+Go.Proofs.YtpdiggaapdhffaaGreat.tWallS x)⟩]:=by
 by_cases h:left - (x.length:Int) < 0
 ·rw [<-szr_lt (by omega)]
  have d:=decide_eq_true h
  refine fe Tryz.func59 Tryz.ntmps59 Tryz.results59 fun hwf=>?_
  have hl:x.length<=9223372036854775807:=(hwf ⟨.slice DW.tWall,x⟩ (by simp)).1
  try simp (maxSteps:=9^9) only[go_sem]
  repeat refine AI ?_
  try simp (maxSteps:=9^9) only[go_sem,d]
  all_goals repeat refine AI ?_
  all_goals first|kernel_rfl|omega|rfl
 ·have d:=decide_eq_false h
  have hr0:=szr_lo left (x.length+Go.Proofs.YtpdiggaapdhffaaGreat.tWallS x) h0
  refine fe Tryz.func59 Tryz.ntmps59 Tryz.results59 fun hwf=>?_
  have hl:x.length<=9223372036854775807:=(hwf ⟨.slice DW.tWall,x⟩ (by simp)).1
  try simp (maxSteps:=9^9) only[go_sem]
  repeat refine AI ?_
  try simp (maxSteps:=9^9) only[go_sem,d]
  refine LoopG.intro _ _ _ (fun i:Nat=>⟨[(0,.sl DW.tWall x),(1,.sc (.int .i64 (szr left (x.length+Go.Proofs.YtpdiggaapdhffaaGreat.tWallS (x.take i))))),(5,.sc (.int .i64 i))],[]⟩) (fun i=>i<=x.length/\0<=szr left (x.length+Go.Proofs.YtpdiggaapdhffaaGreat.tWallS (x.take i))) (fun i=>x.length - i) 0 ?_ ⟨Nat.zero_le _,by
   have e:szr left (x.length+Go.Proofs.YtpdiggaapdhffaaGreat.tWallS (x.take 0))=left - x.length:=by simp [Go.Proofs.YtpdiggaapdhffaaGreat.tWallS]; exact (szr_ge (by omega)).symm
   rw [e]; omega⟩ ?_
  ·have e:szr left (x.length+Go.Proofs.YtpdiggaapdhffaaGreat.tWallS (x.take 0))=left - x.length:=by simp [Go.Proofs.YtpdiggaapdhffaaGreat.tWallS]; exact (szr_ge (by omega)).symm
   rw [e]
   exact WK
  ·rintro i ⟨hi,hle⟩
   have hr1:=szr_lo left (x.length+Go.Proofs.YtpdiggaapdhffaaGreat.tWallS (x.take i)) h0
   try simp (maxSteps:=9^9) only[go_sem]
   refine CondW_dec (fun hA=>?_) (fun hA=>?_)
   ·have hlt:i < x.length:=by omega
    have hts:Go.Proofs.YtpdiggaapdhffaaGreat.tWallS (x.take i)+Go.Proofs.YtpdiggaapdhffaaGreat.tWall x[i]=Go.Proofs.YtpdiggaapdhffaaGreat.tWallS (x.take (i+1)):=by rw [List.take_succ_eq_append_getElem hlt,tWallS_snoc]
    have c1:=szWall_fn (nth (t:=DW.tWall) x i) (szr left (x.length+Go.Proofs.YtpdiggaapdhffaaGreat.tWallS (x.take i))) hle (by omega)
    rw [nth_lt hlt,szr_add _ _ _ hle,Nat.add_assoc,hts] at c1
    rw [<-nth_lt (t:=DW.tWall) hlt] at c1
    have hr2:=szr_lo left (x.length+Go.Proofs.YtpdiggaapdhffaaGreat.tWallS (x.take (i+1))) h0
    by_cases e1:szr left (x.length+Go.Proofs.YtpdiggaapdhffaaGreat.tWallS (x.take (i+1))) < 0
    ·have d1:=decide_eq_true e1
     have hf:=szr_fail e1 (b:=x.length+Go.Proofs.YtpdiggaapdhffaaGreat.tWallS x) (Nat.add_le_add_left (tWallS_take x (i+1)) _)
     rw [<-hf]
     try simp (maxSteps:=9^9) only[go_sem]
     repeat refine AI ?_
     repeat refine AI ?_
     refine cw c1 ?_
     try simp (maxSteps:=9^9) only[go_sem]
     try simp (maxSteps:=9^9) only[go_sem,d1]
     all_goals repeat refine AI ?_
     all_goals first|kernel_rfl|omega|rfl
    ·have d1:=decide_eq_false e1
     try simp (maxSteps:=9^9) only[go_sem]
     repeat refine AI ?_
     repeat refine AI ?_
     refine cw c1 ?_
     try simp (maxSteps:=9^9) only[go_sem]
     try simp (maxSteps:=9^9) only[go_sem,d1]
     repeat refine AI ?_
     refine LoopK.mk (i+1) ?_ ⟨by omega,by omega⟩ (by omega)
     exact WK
   ·have hi2:i=x.length:=by omega
    subst hi2
    rw [List.take_length] at hr1 ⊢
    try simp (maxSteps:=9^9) only[go_sem]
    all_goals repeat refine AI ?_
    all_goals first|kernel_rfl|omega|rfl
theorem toWallS_fn (x:DWallS) (hs:x.length+Go.Proofs.YtpdiggaapdhffaaGreat.tWallS x<=1048576):Fn Tryz.prog 68 [⟨.slice DW.tWall,x⟩] true [⟨.slice DW.tWall,x⟩]:=by
 refine fe Tryz.func68 Tryz.ntmps68 Tryz.results68 fun hwf=>?_
 try simp (maxSteps:=9^9) only[go_sem]
 repeat refine AI ?_
 refine LoopG.intro _ _ _ (fun i:Nat=>⟨[(0,.sl DW.tWall x),(3,.row 0 0),(4,.sc (.int .i64 i))],[(0,.row 127 DW.tWall 0 true (x.take i++List.replicate (x.length - i) ((((false,[]),[]),((false,[]),[]),((false,[]),[])):DWall)))]⟩) (fun i=>i<=x.length) (fun i=>x.length - i) 0 ?_ (Nat.zero_le _) ?_
 ·exact WK
 ·rintro i hi
  have hlen:(x.take i++List.replicate (x.length - i) ((((false,[]),[]),((false,[]),[]),((false,[]),[])):DWall)).length=x.length:=by simp; omega
  try simp (maxSteps:=9^9) only[go_sem]
  refine CondW_dec (fun hA=>?_) (fun hA=>?_)
  ·have hlt:i < x.length:=by omega
   have hset:(x.take i++List.replicate (x.length - i) ((((false,[]),[]),((false,[]),[]),((false,[]),[])):DWall)).set i (nth (t:=DW.tWall) x i)=x.take (i+1)++List.replicate (x.length - (i+1)) ((((false,[]),[]),((false,[]),[]),((false,[]),[])):DWall):=by
    rw [List.set_append_right _ _ (by rw [List.length_take]; omega),List.length_take,show i - min i x.length=0 by omega,show x.length - i=(x.length - (i+1))+1 by omega,List.replicate_succ,List.set_cons_zero,nth_lt hlt]
    have e:x.take (i+1)=x.take i++[x[i]]:=List.take_succ_eq_append_getElem hlt
    rw [e,List.append_assoc]; rfl
   have ht:(List.take i x).length=i:=by rw [List.length_take]; omega
   have c1:=toWall_fn (nth (t:=DW.tWall) x i) (by rw [nth_lt hlt]; have:=tWallS_mem hlt; omega)
   try simp (maxSteps:=9^9) only[go_sem]
   repeat refine AI ?_
   repeat refine AI ?_
   refine cw c1 ?_
   try simp (maxSteps:=9^9) only[go_sem]
   repeat refine AI ?_
   refine LoopK.mk (i+1) ?_ (by omega) (by omega)
   rw [<-hset]
   exact WK
  ·have:x.take i++List.replicate (x.length - i) ((((false,[]),[]),((false,[]),[]),((false,[]),[])):DWall)=x:=by
    rw [List.take_of_length_le (by omega),show x.length - i=0 by omega]; simp
   rw [this]
   try simp (maxSteps:=9^9) only[go_sem]
   all_goals repeat refine AI ?_
   all_goals first|kernel_rfl|omega|rfl
theorem eqWallS_fn (x y:DWallS):Fn Tryz.prog 80 [⟨.slice DW.tWall,x⟩,⟨.slice DW.tWall,y⟩] false [⟨.bool,eqb x y⟩]:=by
 by_cases h0:(x.length:Int)=y.length
 ·have d0:=decide_eq_true h0
  refine fe Tryz.func80 Tryz.ntmps80 Tryz.results80 fun hwf=>?_
  have hl:x.length<=9223372036854775807:=(hwf ⟨.slice DW.tWall,x⟩ (by simp)).1
  try simp (maxSteps:=9^9) only[go_sem,d0]
  refine LoopG.intro _ _ _ (fun i:Nat=>⟨[(0,.sl DW.tWall x),(1,.sl DW.tWall y),(5,.sc (.int .i64 i))],[]⟩) (fun i=>∀ j,j < i->j < x.length->nth (t:=DW.tWall) x j=nth (t:=DW.tWall) y j) (fun i=>x.length - i) 0 ?_ (fun j h=>absurd h (Nat.not_lt_zero _)) ?_
  ·exact WK
  ·rintro i hi
   try simp (maxSteps:=9^9) only[go_sem]
   refine CondW_dec (fun hA=>?_) (fun hA=>?_)
   ·have c1:=eqWall_fn (nth (t:=DW.tWall) x i) (nth (t:=DW.tWall) y i)
    by_cases e:nth (t:=DW.tWall) x i=nth (t:=DW.tWall) y i
    ·rw [eqb_true e] at c1
     try simp (maxSteps:=9^9) only[go_sem]
     repeat refine AI ?_
     repeat refine AI ?_
     refine cw c1 ?_
     try simp (maxSteps:=9^9) only[go_sem]
     repeat refine AI ?_
     refine LoopK.mk (i+1) ?_ (fun j h1 h2=>?_) (by omega)
     ·exact WK
     ·by_cases h3:j < i
      ·exact hi j h3 h2
      ·rw [show j=i by omega]; exact e
    ·rw [eqb_false e] at c1
     rw [eqb_false (fun h=>e (by rw [h]))]
     try simp (maxSteps:=9^9) only[go_sem]
     repeat refine AI ?_
     repeat refine AI ?_
     refine cw c1 ?_
     try simp (maxSteps:=9^9) only[go_sem]
     all_goals repeat refine AI ?_
     all_goals first|kernel_rfl|omega|rfl
   ·have:x=y:=by
     refine List.ext_getElem (by omega) fun j h1 h2=>?_
     have:=hi j (by omega) h1
     rwa [nth_lt h1,nth_lt h2] at this
    rw [eqb_true this]
    try simp (maxSteps:=9^9) only[go_sem]
 ·have d0:=decide_eq_false h0
  rw [eqb_false (fun h=>h0 (by rw [h]))]
  refine fe Tryz.func80 Tryz.ntmps80 Tryz.results80 fun hwf=>?_
  try simp (maxSteps:=9^9) only[go_sem,d0]
theorem szIntSS_fn (x:DIntSS) (left:Int) (h0:0<=left) (h1:left<=1048576):Fn Tryz.prog 19 [⟨.slice DW.tInts,x⟩,⟨.int,left⟩] false [⟨.int,szr left (x.length+Go.Proofs.YtpdiggaapdhffaaGreat.tIntSS x)⟩]:=by
 by_cases h:left - (x.length:Int) < 0
 ·rw [<-szr_lt (by omega)]
  have d:=decide_eq_true h
  refine fe Tryz.func19 Tryz.ntmps19 Tryz.results19 fun hwf=>?_
  have hl:x.length<=9223372036854775807:=(hwf ⟨.slice DW.tInts,x⟩ (by simp)).1
  try simp (maxSteps:=9^9) only[go_sem]
  repeat refine AI ?_
  try simp (maxSteps:=9^9) only[go_sem,d]
  all_goals repeat refine AI ?_
  all_goals first|kernel_rfl|omega|rfl
 ·have d:=decide_eq_false h
  have hr0:=szr_lo left (x.length+Go.Proofs.YtpdiggaapdhffaaGreat.tIntSS x) h0
  refine fe Tryz.func19 Tryz.ntmps19 Tryz.results19 fun hwf=>?_
  have hl:x.length<=9223372036854775807:=(hwf ⟨.slice DW.tInts,x⟩ (by simp)).1
  try simp (maxSteps:=9^9) only[go_sem]
  repeat refine AI ?_
  try simp (maxSteps:=9^9) only[go_sem,d]
  refine LoopG.intro _ _ _ (fun i:Nat=>⟨[(0,.sl DW.tInts x),(1,.sc (.int .i64 (szr left (x.length+Go.Proofs.YtpdiggaapdhffaaGreat.tIntSS (x.take i))))),(5,.sc (.int .i64 i))],[]⟩) (fun i=>i<=x.length/\0<=szr left (x.length+Go.Proofs.YtpdiggaapdhffaaGreat.tIntSS (x.take i))) (fun i=>x.length - i) 0 ?_ ⟨Nat.zero_le _,by
   have e:szr left (x.length+Go.Proofs.YtpdiggaapdhffaaGreat.tIntSS (x.take 0))=left - x.length:=by simp [Go.Proofs.YtpdiggaapdhffaaGreat.tIntSS]; exact (szr_ge (by omega)).symm
   rw [e]; omega⟩ ?_
  ·have e:szr left (x.length+Go.Proofs.YtpdiggaapdhffaaGreat.tIntSS (x.take 0))=left - x.length:=by simp [Go.Proofs.YtpdiggaapdhffaaGreat.tIntSS]; exact (szr_ge (by omega)).symm
   rw [e]
   exact WK
  ·rintro i ⟨hi,hle⟩
   have hr1:=szr_lo left (x.length+Go.Proofs.YtpdiggaapdhffaaGreat.tIntSS (x.take i)) h0
   try simp (maxSteps:=9^9) only[go_sem]
   refine CondW_dec (fun hA=>?_) (fun hA=>?_)
   ·have hlt:i < x.length:=by omega
    have hts:Go.Proofs.YtpdiggaapdhffaaGreat.tIntSS (x.take i)+x[i].length=Go.Proofs.YtpdiggaapdhffaaGreat.tIntSS (x.take (i+1)):=by rw [List.take_succ_eq_append_getElem hlt,tIntSS_snoc]
    have c1:=szIntS_fn (nth (t:=DW.tInts) x i) (szr left (x.length+Go.Proofs.YtpdiggaapdhffaaGreat.tIntSS (x.take i))) hle (by omega)
    rw [nth_lt hlt,szr_add _ _ _ hle,Nat.add_assoc,hts] at c1
    rw [<-nth_lt (t:=DW.tInts) hlt] at c1
    have hr2:=szr_lo left (x.length+Go.Proofs.YtpdiggaapdhffaaGreat.tIntSS (x.take (i+1))) h0
    by_cases e1:szr left (x.length+Go.Proofs.YtpdiggaapdhffaaGreat.tIntSS (x.take (i+1))) < 0
    ·have d1:=decide_eq_true e1
     have hf:=szr_fail e1 (b:=x.length+Go.Proofs.YtpdiggaapdhffaaGreat.tIntSS x) (Nat.add_le_add_left (tIntSS_take x (i+1)) _)
     rw [<-hf]
     try simp (maxSteps:=9^9) only[go_sem]
     repeat refine AI ?_
     repeat refine AI ?_
     refine cw c1 ?_
     try simp (maxSteps:=9^9) only[go_sem]
     try simp (maxSteps:=9^9) only[go_sem,d1]
     all_goals repeat refine AI ?_
     all_goals first|kernel_rfl|omega|rfl
    ·have d1:=decide_eq_false e1
     try simp (maxSteps:=9^9) only[go_sem]
     repeat refine AI ?_
     repeat refine AI ?_
     refine cw c1 ?_
     try simp (maxSteps:=9^9) only[go_sem]
     try simp (maxSteps:=9^9) only[go_sem,d1]
     repeat refine AI ?_
     refine LoopK.mk (i+1) ?_ ⟨by omega,by omega⟩ (by omega)
     exact WK
   ·have hi2:i=x.length:=by omega
    subst hi2
    rw [List.take_length] at hr1 ⊢
    try simp (maxSteps:=9^9) only[go_sem]
    all_goals repeat refine AI ?_
    all_goals first|kernel_rfl|omega|rfl
theorem toIntSS_fn (x:DIntSS) (hs:x.length+Go.Proofs.YtpdiggaapdhffaaGreat.tIntSS x<=1048576):Fn Tryz.prog 26 [⟨.slice DW.tInts,x⟩] true [⟨.slice DW.tInts,x⟩]:=by
 refine fe Tryz.func26 Tryz.ntmps26 Tryz.results26 fun hwf=>?_
 try simp (maxSteps:=9^9) only[go_sem]
 repeat refine AI ?_
 refine LoopG.intro _ _ _ (fun i:Nat=>⟨[(0,.sl DW.tInts x),(3,.row 0 0),(4,.sc (.int .i64 i))],[(0,.row 29 DW.tInts 0 true (x.take i++List.replicate (x.length - i) ([]:DIntS)))]⟩) (fun i=>i<=x.length) (fun i=>x.length - i) 0 ?_ (Nat.zero_le _) ?_
 ·exact WK
 ·rintro i hi
  have hlen:(x.take i++List.replicate (x.length - i) ([]:DIntS)).length=x.length:=by simp; omega
  try simp (maxSteps:=9^9) only[go_sem]
  refine CondW_dec (fun hA=>?_) (fun hA=>?_)
  ·have hlt:i < x.length:=by omega
   have hset:(x.take i++List.replicate (x.length - i) ([]:DIntS)).set i (nth (t:=DW.tInts) x i)=x.take (i+1)++List.replicate (x.length - (i+1)) ([]:DIntS):=by
    rw [List.set_append_right _ _ (by rw [List.length_take]; omega),List.length_take,show i - min i x.length=0 by omega,show x.length - i=(x.length - (i+1))+1 by omega,List.replicate_succ,List.set_cons_zero,nth_lt hlt]
    have e:x.take (i+1)=x.take i++[x[i]]:=List.take_succ_eq_append_getElem hlt
    rw [e,List.append_assoc]; rfl
   have ht:(List.take i x).length=i:=by rw [List.length_take]; omega
   have c1:=toIntS_fn (nth (t:=DW.tInts) x i) (by rw [nth_lt hlt]; have:=tIntSS_mem hlt; omega)
   try simp (maxSteps:=9^9) only[go_sem]
   repeat refine AI ?_
   repeat refine AI ?_
   refine cw c1 ?_
   try simp (maxSteps:=9^9) only[go_sem]
   repeat refine AI ?_
   refine LoopK.mk (i+1) ?_ (by omega) (by omega)
   rw [<-hset]
   exact WK
  ·have:x.take i++List.replicate (x.length - i) ([]:DIntS)=x:=by
    rw [List.take_of_length_le (by omega),show x.length - i=0 by omega]; simp
   rw [this]
   try simp (maxSteps:=9^9) only[go_sem]
   all_goals repeat refine AI ?_
   all_goals first|kernel_rfl|omega|rfl
theorem eqIntSS_fn (x y:DIntSS):Fn Tryz.prog 33 [⟨.slice DW.tInts,x⟩,⟨.slice DW.tInts,y⟩] false [⟨.bool,eqb x y⟩]:=by
 by_cases h0:(x.length:Int)=y.length
 ·have d0:=decide_eq_true h0
  refine fe Tryz.func33 Tryz.ntmps33 Tryz.results33 fun hwf=>?_
  have hl:x.length<=9223372036854775807:=(hwf ⟨.slice DW.tInts,x⟩ (by simp)).1
  try simp (maxSteps:=9^9) only[go_sem,d0]
  refine LoopG.intro _ _ _ (fun i:Nat=>⟨[(0,.sl DW.tInts x),(1,.sl DW.tInts y),(5,.sc (.int .i64 i))],[]⟩) (fun i=>∀ j,j < i->j < x.length->nth (t:=DW.tInts) x j=nth (t:=DW.tInts) y j) (fun i=>x.length - i) 0 ?_ (fun j h=>absurd h (Nat.not_lt_zero _)) ?_
  ·exact WK
  ·rintro i hi
   try simp (maxSteps:=9^9) only[go_sem]
   refine CondW_dec (fun hA=>?_) (fun hA=>?_)
   ·have c1:=eqIntS_fn (nth (t:=DW.tInts) x i) (nth (t:=DW.tInts) y i)
    by_cases e:nth (t:=DW.tInts) x i=nth (t:=DW.tInts) y i
    ·rw [eqb_true e] at c1
     try simp (maxSteps:=9^9) only[go_sem]
     repeat refine AI ?_
     repeat refine AI ?_
     refine cw c1 ?_
     try simp (maxSteps:=9^9) only[go_sem]
     repeat refine AI ?_
     refine LoopK.mk (i+1) ?_ (fun j h1 h2=>?_) (by omega)
     ·exact WK
     ·by_cases h3:j < i
      ·exact hi j h3 h2
      ·rw [show j=i by omega]; exact e
    ·rw [eqb_false e] at c1
     rw [eqb_false (fun h=>e (by rw [h]))]
     try simp (maxSteps:=9^9) only[go_sem]
     repeat refine AI ?_
     repeat refine AI ?_
     refine cw c1 ?_
     try simp (maxSteps:=9^9) only[go_sem]
     all_goals repeat refine AI ?_
     all_goals first|kernel_rfl|omega|rfl
   ·have:x=y:=by
     refine List.ext_getElem (by omega) fun j h1 h2=>?_
     have:=hi j (by omega) h1
     rwa [nth_lt h1,nth_lt h2] at this
    rw [eqb_true this]
    try simp (maxSteps:=9^9) only[go_sem]
 ·have d0:=decide_eq_false h0
  rw [eqb_false (fun h=>h0 (by rw [h]))]
  refine fe Tryz.func33 Tryz.ntmps33 Tryz.results33 fun hwf=>?_
  try simp (maxSteps:=9^9) only[go_sem,d0]
theorem szSlice_fn (x:DSlice) (left:Int) (h0:0<=left) (h1:left<=1048576):Fn Tryz.prog 41 [⟨DW.tSlice,x⟩,⟨.int,left⟩] false [⟨.int,szr left (Go.Proofs.YtpdiggaapdhffaaGreat.tSlice x)⟩]:=by
 obtain ⟨v0,v1,v2,v3,v4,v5,v6,v7⟩:=x
 have hT:Go.Proofs.YtpdiggaapdhffaaGreat.tSlice (v0,v1,v2,v3,v4,v5,v6,v7)=(v3.length+Go.Proofs.YtpdiggaapdhffaaGreat.tVecSS v3)+(v4.length+Go.Proofs.YtpdiggaapdhffaaGreat.tCellS v4)+(v5.length+Go.Proofs.YtpdiggaapdhffaaGreat.tWallS v5)+v6.length+v7.length:=rfl
 have c1:=szVecSS_fn v3 left h0 h1
 have r1:=szr_lo left ((v3.length+Go.Proofs.YtpdiggaapdhffaaGreat.tVecSS v3)) h0
 by_cases e1:szr left ((v3.length+Go.Proofs.YtpdiggaapdhffaaGreat.tVecSS v3)) < 0
 ·have d1:=decide_eq_true e1
  rw [<-szr_fail e1 (b:=Go.Proofs.YtpdiggaapdhffaaGreat.tSlice (v0,v1,v2,v3,v4,v5,v6,v7)) (by omega)]
  refine fe Tryz.func41 Tryz.ntmps41 Tryz.results41 fun hwf=>?_
  try simp (maxSteps:=9^9) only[go_sem]
  repeat refine AI ?_
  repeat refine AI ?_
  refine cw c1 ?_
  try simp (maxSteps:=9^9) only[go_sem]
  try simp (maxSteps:=9^9) only[go_sem,d1]
  all_goals repeat refine AI ?_
  all_goals first|kernel_rfl|omega|rfl
 ·have d1:=decide_eq_false e1
  have c2:=szCellS_fn v4 (szr left ((v3.length+Go.Proofs.YtpdiggaapdhffaaGreat.tVecSS v3))) (by omega) (by omega)
  rw [szr_add _ _ _ (by omega)] at c2
  have r2:=szr_lo left ((v3.length+Go.Proofs.YtpdiggaapdhffaaGreat.tVecSS v3)+(v4.length+Go.Proofs.YtpdiggaapdhffaaGreat.tCellS v4)) h0
  by_cases e2:szr left ((v3.length+Go.Proofs.YtpdiggaapdhffaaGreat.tVecSS v3)+(v4.length+Go.Proofs.YtpdiggaapdhffaaGreat.tCellS v4)) < 0
  ·have d2:=decide_eq_true e2
   rw [<-szr_fail e2 (b:=Go.Proofs.YtpdiggaapdhffaaGreat.tSlice (v0,v1,v2,v3,v4,v5,v6,v7)) (by omega)]
   refine fe Tryz.func41 Tryz.ntmps41 Tryz.results41 fun hwf=>?_
   try simp (maxSteps:=9^9) only[go_sem]
   repeat refine AI ?_
   repeat refine AI ?_
   refine cw c1 ?_
   try simp (maxSteps:=9^9) only[go_sem]
   try simp (maxSteps:=9^9) only[go_sem,d1]
   repeat refine AI ?_
   repeat refine AI ?_
   refine cw c2 ?_
   try simp (maxSteps:=9^9) only[go_sem]
   try simp (maxSteps:=9^9) only[go_sem,d2]
   all_goals repeat refine AI ?_
   all_goals first|kernel_rfl|omega|rfl
  ·have d2:=decide_eq_false e2
   have c3:=szWallS_fn v5 (szr left ((v3.length+Go.Proofs.YtpdiggaapdhffaaGreat.tVecSS v3)+(v4.length+Go.Proofs.YtpdiggaapdhffaaGreat.tCellS v4))) (by omega) (by omega)
   rw [szr_add _ _ _ (by omega)] at c3
   have r3:=szr_lo left ((v3.length+Go.Proofs.YtpdiggaapdhffaaGreat.tVecSS v3)+(v4.length+Go.Proofs.YtpdiggaapdhffaaGreat.tCellS v4)+(v5.length+Go.Proofs.YtpdiggaapdhffaaGreat.tWallS v5)) h0
   by_cases e3:szr left ((v3.length+Go.Proofs.YtpdiggaapdhffaaGreat.tVecSS v3)+(v4.length+Go.Proofs.YtpdiggaapdhffaaGreat.tCellS v4)+(v5.length+Go.Proofs.YtpdiggaapdhffaaGreat.tWallS v5)) < 0
   ·have d3:=decide_eq_true e3
    rw [<-szr_fail e3 (b:=Go.Proofs.YtpdiggaapdhffaaGreat.tSlice (v0,v1,v2,v3,v4,v5,v6,v7)) (by omega)]
    refine fe Tryz.func41 Tryz.ntmps41 Tryz.results41 fun hwf=>?_
    try simp (maxSteps:=9^9) only[go_sem]
    repeat refine AI ?_
    repeat refine AI ?_
    refine cw c1 ?_
    try simp (maxSteps:=9^9) only[go_sem]
    try simp (maxSteps:=9^9) only[go_sem,d1]
    repeat refine AI ?_
    repeat refine AI ?_
    refine cw c2 ?_
    try simp (maxSteps:=9^9) only[go_sem]
    try simp (maxSteps:=9^9) only[go_sem,d2]
    repeat refine AI ?_
    repeat refine AI ?_
    refine cw c3 ?_
    try simp (maxSteps:=9^9) only[go_sem]
    try simp (maxSteps:=9^9) only[go_sem,d3]
    all_goals repeat refine AI ?_
    all_goals first|kernel_rfl|omega|rfl
   ·have d3:=decide_eq_false e3
    have c4:=szDoorS_fn v6 (szr left ((v3.length+Go.Proofs.YtpdiggaapdhffaaGreat.tVecSS v3)+(v4.length+Go.Proofs.YtpdiggaapdhffaaGreat.tCellS v4)+(v5.length+Go.Proofs.YtpdiggaapdhffaaGreat.tWallS v5))) (by omega) (by omega)
    rw [szr_add _ _ _ (by omega)] at c4
    have r4:=szr_lo left ((v3.length+Go.Proofs.YtpdiggaapdhffaaGreat.tVecSS v3)+(v4.length+Go.Proofs.YtpdiggaapdhffaaGreat.tCellS v4)+(v5.length+Go.Proofs.YtpdiggaapdhffaaGreat.tWallS v5)+v6.length) h0
    by_cases e4:szr left ((v3.length+Go.Proofs.YtpdiggaapdhffaaGreat.tVecSS v3)+(v4.length+Go.Proofs.YtpdiggaapdhffaaGreat.tCellS v4)+(v5.length+Go.Proofs.YtpdiggaapdhffaaGreat.tWallS v5)+v6.length) < 0
    ·have d4:=decide_eq_true e4
     rw [<-szr_fail e4 (b:=Go.Proofs.YtpdiggaapdhffaaGreat.tSlice (v0,v1,v2,v3,v4,v5,v6,v7)) (by omega)]
     refine fe Tryz.func41 Tryz.ntmps41 Tryz.results41 fun hwf=>?_
     try simp (maxSteps:=9^9) only[go_sem]
     repeat refine AI ?_
     repeat refine AI ?_
     refine cw c1 ?_
     try simp (maxSteps:=9^9) only[go_sem]
     try simp (maxSteps:=9^9) only[go_sem,d1]
     repeat refine AI ?_
     repeat refine AI ?_
     refine cw c2 ?_
     try simp (maxSteps:=9^9) only[go_sem]
     try simp (maxSteps:=9^9) only[go_sem,d2]
     repeat refine AI ?_
     repeat refine AI ?_
     refine cw c3 ?_
     try simp (maxSteps:=9^9) only[go_sem]
     try simp (maxSteps:=9^9) only[go_sem,d3]
     repeat refine AI ?_
     repeat refine AI ?_
     refine cw c4 ?_
     try simp (maxSteps:=9^9) only[go_sem]
     try simp (maxSteps:=9^9) only[go_sem,d4]
     all_goals repeat refine AI ?_
     all_goals first|kernel_rfl|omega|rfl
    ·have d4:=decide_eq_false e4
     have c5:=szIntS_fn v7 (szr left ((v3.length+Go.Proofs.YtpdiggaapdhffaaGreat.tVecSS v3)+(v4.length+Go.Proofs.YtpdiggaapdhffaaGreat.tCellS v4)+(v5.length+Go.Proofs.YtpdiggaapdhffaaGreat.tWallS v5)+v6.length)) (by omega) (by omega)
     rw [szr_add _ _ _ (by omega)] at c5
     have r5:=szr_lo left ((v3.length+Go.Proofs.YtpdiggaapdhffaaGreat.tVecSS v3)+(v4.length+Go.Proofs.YtpdiggaapdhffaaGreat.tCellS v4)+(v5.length+Go.Proofs.YtpdiggaapdhffaaGreat.tWallS v5)+v6.length+v7.length) h0
     by_cases e5:szr left ((v3.length+Go.Proofs.YtpdiggaapdhffaaGreat.tVecSS v3)+(v4.length+Go.Proofs.YtpdiggaapdhffaaGreat.tCellS v4)+(v5.length+Go.Proofs.YtpdiggaapdhffaaGreat.tWallS v5)+v6.length+v7.length) < 0
     ·have d5:=decide_eq_true e5
      rw [hT]
      have e0:szr left ((v3.length+Go.Proofs.YtpdiggaapdhffaaGreat.tVecSS v3)+(v4.length+Go.Proofs.YtpdiggaapdhffaaGreat.tCellS v4)+(v5.length+Go.Proofs.YtpdiggaapdhffaaGreat.tWallS v5)+v6.length+v7.length)=-1:=by omega
      rw [e0] at d5 c5 ⊢
      refine fe Tryz.func41 Tryz.ntmps41 Tryz.results41 fun hwf=>?_
      try simp (maxSteps:=9^9) only[go_sem]
      repeat refine AI ?_
      repeat refine AI ?_
      refine cw c1 ?_
      try simp (maxSteps:=9^9) only[go_sem]
      try simp (maxSteps:=9^9) only[go_sem,d1]
      repeat refine AI ?_
      repeat refine AI ?_
      refine cw c2 ?_
      try simp (maxSteps:=9^9) only[go_sem]
      try simp (maxSteps:=9^9) only[go_sem,d2]
      repeat refine AI ?_
      repeat refine AI ?_
      refine cw c3 ?_
      try simp (maxSteps:=9^9) only[go_sem]
      try simp (maxSteps:=9^9) only[go_sem,d3]
      repeat refine AI ?_
      repeat refine AI ?_
      refine cw c4 ?_
      try simp (maxSteps:=9^9) only[go_sem]
      try simp (maxSteps:=9^9) only[go_sem,d4]
      repeat refine AI ?_
      repeat refine AI ?_
      refine cw c5 ?_
      try simp (maxSteps:=9^9) only[go_sem]
      try simp (maxSteps:=9^9) only[go_sem,d5]
      all_goals repeat refine AI ?_
      all_goals first|kernel_rfl|omega|rfl
     ·have d5:=decide_eq_false e5
      rw [hT]
      refine fe Tryz.func41 Tryz.ntmps41 Tryz.results41 fun hwf=>?_
      try simp (maxSteps:=9^9) only[go_sem]
      repeat refine AI ?_
      repeat refine AI ?_
      refine cw c1 ?_
      try simp (maxSteps:=9^9) only[go_sem]
      try simp (maxSteps:=9^9) only[go_sem,d1]
      repeat refine AI ?_
      repeat refine AI ?_
      refine cw c2 ?_
      try simp (maxSteps:=9^9) only[go_sem]
      try simp (maxSteps:=9^9) only[go_sem,d2]
      repeat refine AI ?_
      repeat refine AI ?_
      refine cw c3 ?_
      try simp (maxSteps:=9^9) only[go_sem]
      try simp (maxSteps:=9^9) only[go_sem,d3]
      repeat refine AI ?_
      repeat refine AI ?_
      refine cw c4 ?_
      try simp (maxSteps:=9^9) only[go_sem]
      try simp (maxSteps:=9^9) only[go_sem,d4]
      repeat refine AI ?_
      repeat refine AI ?_
      refine cw c5 ?_
      try simp (maxSteps:=9^9) only[go_sem]
      try simp (maxSteps:=9^9) only[go_sem,d5]
      all_goals repeat refine AI ?_
      all_goals first|kernel_rfl|omega|rfl
theorem toSlice_fn (x:DSlice) (hs:Go.Proofs.YtpdiggaapdhffaaGreat.tSlice x<=1048576):Fn Tryz.prog 47 [⟨DW.tSlice,x⟩] true [⟨DW.tSlice,x⟩]:=by
 obtain ⟨v0,v1,v2,v3,v4,v5,v6,v7⟩:=x
 have hT:Go.Proofs.YtpdiggaapdhffaaGreat.tSlice (v0,v1,v2,v3,v4,v5,v6,v7)=(v3.length+Go.Proofs.YtpdiggaapdhffaaGreat.tVecSS v3)+(v4.length+Go.Proofs.YtpdiggaapdhffaaGreat.tCellS v4)+(v5.length+Go.Proofs.YtpdiggaapdhffaaGreat.tWallS v5)+v6.length+v7.length:=rfl
 have c2:=toBox_fn v2
 have c3:=toVecSS_fn v3 (by omega)
 have c4:=toCellS_fn v4 (by omega)
 have c5:=toWallS_fn v5 (by omega)
 have c6:=toDoorS_fn v6 (by omega)
 have c7:=toIntS_fn v7 (by omega)
 refine fe Tryz.func47 Tryz.ntmps47 Tryz.results47 fun hwf=>?_
 try simp (maxSteps:=9^9) only[go_sem]
 repeat refine AI ?_
 repeat refine AI ?_
 refine cw c2 ?_
 try simp (maxSteps:=9^9) only[go_sem]
 repeat refine AI ?_
 repeat refine AI ?_
 refine cw c3 ?_
 try simp (maxSteps:=9^9) only[go_sem]
 repeat refine AI ?_
 repeat refine AI ?_
 refine cw c4 ?_
 try simp (maxSteps:=9^9) only[go_sem]
 repeat refine AI ?_
 repeat refine AI ?_
 refine cw c5 ?_
 try simp (maxSteps:=9^9) only[go_sem]
 repeat refine AI ?_
 repeat refine AI ?_
 refine cw c6 ?_
 try simp (maxSteps:=9^9) only[go_sem]
 repeat refine AI ?_
 repeat refine AI ?_
 refine cw c7 ?_
 try simp (maxSteps:=9^9) only[go_sem]
 all_goals repeat refine AI ?_
 all_goals first|kernel_rfl|omega|rfl
theorem eqSlice_fn (x y:DSlice):Fn Tryz.prog 54 [⟨DW.tSlice,x⟩,⟨DW.tSlice,y⟩] false [⟨.bool,eqb x y⟩]:=by
 obtain ⟨v0,v1,v2,v3,v4,v5,v6,v7⟩:=x
 obtain ⟨w0,w1,w2,w3,w4,w5,w6,w7⟩:=y
 have c2:=eqBox_fn v2 w2
 have c3:=eqVecSS_fn v3 w3
 have c4:=eqCellS_fn v4 w4
 have c5:=eqWallS_fn v5 w5
 have c6:=eqDoorS_fn v6 w6
 have c7:=eqIntS_fn v7 w7
 by_cases e0:v0=w0
 rotate_left
 ·have d0:=decide_eq_false e0
  rw [eqb_false (fun h=>e0 (congrArg (fun z=>z.1) h))]
  refine fe Tryz.func54 Tryz.ntmps54 Tryz.results54 fun hwf=>?_
  try simp (maxSteps:=9^9) only[go_sem,d0]
  all_goals repeat refine AI ?_
  all_goals first|kernel_rfl|omega|rfl
 have d0:=decide_eq_true e0
 by_cases e1:v1=w1
 rotate_left
 ·rw [eqb_false (fun h=>e1 (congrArg (fun z=>z.2.1) h))]
  obtain ⟨rfl,rfl⟩|⟨rfl,rfl⟩:v1=true/\w1=false\/v1=false/\w1=true:=by cases v1<;>cases w1<;>simp_all
  ·have hb:(true == false)=false:=rfl
   refine fe Tryz.func54 Tryz.ntmps54 Tryz.results54 fun hwf=>?_
   try simp (maxSteps:=9^9) only[go_sem,d0,hb]
   all_goals repeat refine AI ?_
   all_goals first|kernel_rfl|omega|rfl
  ·have hb:(false == true)=false:=rfl
   refine fe Tryz.func54 Tryz.ntmps54 Tryz.results54 fun hwf=>?_
   try simp (maxSteps:=9^9) only[go_sem,d0,hb]
   all_goals repeat refine AI ?_
   all_goals first|kernel_rfl|omega|rfl
 subst e1
 by_cases e2:v2=w2
 rotate_left
 ·rw [eqb_false e2] at c2
  rw [eqb_false (fun h=>e2 (congrArg (fun z=>z.2.2.1) h))]
  refine fe Tryz.func54 Tryz.ntmps54 Tryz.results54 fun hwf=>?_
  try simp (maxSteps:=9^9) only[go_sem,d0]
  repeat refine AI ?_
  repeat refine AI ?_
  refine cw c2 ?_
  try simp (maxSteps:=9^9) only[go_sem]
  all_goals repeat refine AI ?_
  all_goals first|kernel_rfl|omega|rfl
 rw [eqb_true e2] at c2
 by_cases e3:v3=w3
 rotate_left
 ·rw [eqb_false e3] at c3
  rw [eqb_false (fun h=>e3 (congrArg (fun z=>z.2.2.2.1) h))]
  refine fe Tryz.func54 Tryz.ntmps54 Tryz.results54 fun hwf=>?_
  try simp (maxSteps:=9^9) only[go_sem,d0]
  repeat refine AI ?_
  repeat refine AI ?_
  refine cw c2 ?_
  try simp (maxSteps:=9^9) only[go_sem]
  repeat refine AI ?_
  repeat refine AI ?_
  refine cw c3 ?_
  try simp (maxSteps:=9^9) only[go_sem]
  all_goals repeat refine AI ?_
  all_goals first|kernel_rfl|omega|rfl
 rw [eqb_true e3] at c3
 by_cases e4:v4=w4
 rotate_left
 ·rw [eqb_false e4] at c4
  rw [eqb_false (fun h=>e4 (congrArg (fun z=>z.2.2.2.2.1) h))]
  refine fe Tryz.func54 Tryz.ntmps54 Tryz.results54 fun hwf=>?_
  try simp (maxSteps:=9^9) only[go_sem,d0]
  repeat refine AI ?_
  repeat refine AI ?_
  refine cw c2 ?_
  try simp (maxSteps:=9^9) only[go_sem]
  repeat refine AI ?_
  repeat refine AI ?_
  refine cw c3 ?_
  try simp (maxSteps:=9^9) only[go_sem]
  repeat refine AI ?_
  repeat refine AI ?_
  refine cw c4 ?_
  try simp (maxSteps:=9^9) only[go_sem]
  all_goals repeat refine AI ?_
  all_goals first|kernel_rfl|omega|rfl
 rw [eqb_true e4] at c4
 by_cases e5:v5=w5
 rotate_left
 ·rw [eqb_false e5] at c5
  rw [eqb_false (fun h=>e5 (congrArg (fun z=>z.2.2.2.2.2.1) h))]
  refine fe Tryz.func54 Tryz.ntmps54 Tryz.results54 fun hwf=>?_
  try simp (maxSteps:=9^9) only[go_sem,d0]
  repeat refine AI ?_
  repeat refine AI ?_
  refine cw c2 ?_
  try simp (maxSteps:=9^9) only[go_sem]
  repeat refine AI ?_
  repeat refine AI ?_
  refine cw c3 ?_
  try simp (maxSteps:=9^9) only[go_sem]
  repeat refine AI ?_
  repeat refine AI ?_
  refine cw c4 ?_
  try simp (maxSteps:=9^9) only[go_sem]
  repeat refine AI ?_
  repeat refine AI ?_
  refine cw c5 ?_
  try simp (maxSteps:=9^9) only[go_sem]
  all_goals repeat refine AI ?_
  all_goals first|kernel_rfl|omega|rfl
 rw [eqb_true e5] at c5
 by_cases e6:v6=w6
 rotate_left
 ·rw [eqb_false e6] at c6
  rw [eqb_false (fun h=>e6 (congrArg (fun z=>z.2.2.2.2.2.2.1) h))]
  refine fe Tryz.func54 Tryz.ntmps54 Tryz.results54 fun hwf=>?_
  try simp (maxSteps:=9^9) only[go_sem,d0]
  repeat refine AI ?_
  repeat refine AI ?_
  refine cw c2 ?_
  try simp (maxSteps:=9^9) only[go_sem]
  repeat refine AI ?_
  repeat refine AI ?_
  refine cw c3 ?_
  try simp (maxSteps:=9^9) only[go_sem]
  repeat refine AI ?_
  repeat refine AI ?_
  refine cw c4 ?_
  try simp (maxSteps:=9^9) only[go_sem]
  repeat refine AI ?_
  repeat refine AI ?_
  refine cw c5 ?_
  try simp (maxSteps:=9^9) only[go_sem]
  repeat refine AI ?_
  repeat refine AI ?_
  refine cw c6 ?_
  try simp (maxSteps:=9^9) only[go_sem]
  all_goals repeat refine AI ?_
  all_goals first|kernel_rfl|omega|rfl
 rw [eqb_true e6] at c6
 by_cases e7:v7=w7
 rotate_left
 ·rw [eqb_false e7] at c7
  rw [eqb_false (fun h=>e7 (congrArg (fun z=>z.2.2.2.2.2.2.2) h))]
  refine fe Tryz.func54 Tryz.ntmps54 Tryz.results54 fun hwf=>?_
  try simp (maxSteps:=9^9) only[go_sem,d0]
  repeat refine AI ?_
  repeat refine AI ?_
  refine cw c2 ?_
  try simp (maxSteps:=9^9) only[go_sem]
  repeat refine AI ?_
  repeat refine AI ?_
  refine cw c3 ?_
  try simp (maxSteps:=9^9) only[go_sem]
  repeat refine AI ?_
  repeat refine AI ?_
  refine cw c4 ?_
  try simp (maxSteps:=9^9) only[go_sem]
  repeat refine AI ?_
  repeat refine AI ?_
  refine cw c5 ?_
  try simp (maxSteps:=9^9) only[go_sem]
  repeat refine AI ?_
  repeat refine AI ?_
  refine cw c6 ?_
  try simp (maxSteps:=9^9) only[go_sem]
  repeat refine AI ?_
  repeat refine AI ?_
  refine cw c7 ?_
  try simp (maxSteps:=9^9) only[go_sem]
  all_goals repeat refine AI ?_
  all_goals first|kernel_rfl|omega|rfl
 rw [eqb_true e7] at c7
 rw [eqb_true (by rw [e0,e2,e3,e4,e5,e6,e7])]
 refine fe Tryz.func54 Tryz.ntmps54 Tryz.results54 fun hwf=>?_
 try simp (maxSteps:=9^9) only[go_sem,d0]
 repeat refine AI ?_
 repeat refine AI ?_
 refine cw c2 ?_
 try simp (maxSteps:=9^9) only[go_sem]
 repeat refine AI ?_
 repeat refine AI ?_
 refine cw c3 ?_
 try simp (maxSteps:=9^9) only[go_sem]
 repeat refine AI ?_
 repeat refine AI ?_
 refine cw c4 ?_
 try simp (maxSteps:=9^9) only[go_sem]
 repeat refine AI ?_
 repeat refine AI ?_
 refine cw c5 ?_
 try simp (maxSteps:=9^9) only[go_sem]
 repeat refine AI ?_
 repeat refine AI ?_
 refine cw c6 ?_
 try simp (maxSteps:=9^9) only[go_sem]
 repeat refine AI ?_
 repeat refine AI ?_
 refine cw c7 ?_
 try simp (maxSteps:=9^9) only[go_sem]
 all_goals repeat refine AI ?_
 all_goals first|kernel_rfl|omega|rfl
theorem szSliceS_fn (x:DSliceS) (left:Int) (h0:0<=left) (h1:left<=1048576):Fn Tryz.prog 17 [⟨.slice DW.tSlice,x⟩,⟨.int,left⟩] false [⟨.int,szr left (x.length+Go.Proofs.YtpdiggaapdhffaaGreat.tSliceS x)⟩]:=by
 by_cases h:left - (x.length:Int) < 0
 ·rw [<-szr_lt (by omega)]
  have d:=decide_eq_true h
  refine fe Tryz.func17 Tryz.ntmps17 Tryz.results17 fun hwf=>?_
  have hl:x.length<=9223372036854775807:=(hwf ⟨.slice DW.tSlice,x⟩ (by simp)).1
  try simp (maxSteps:=9^9) only[go_sem]
  repeat refine AI ?_
  try simp (maxSteps:=9^9) only[go_sem,d]
  all_goals repeat refine AI ?_
  all_goals first|kernel_rfl|omega|rfl
 ·have d:=decide_eq_false h
  have hr0:=szr_lo left (x.length+Go.Proofs.YtpdiggaapdhffaaGreat.tSliceS x) h0
  refine fe Tryz.func17 Tryz.ntmps17 Tryz.results17 fun hwf=>?_
  have hl:x.length<=9223372036854775807:=(hwf ⟨.slice DW.tSlice,x⟩ (by simp)).1
  try simp (maxSteps:=9^9) only[go_sem]
  repeat refine AI ?_
  try simp (maxSteps:=9^9) only[go_sem,d]
  refine LoopG.intro _ _ _ (fun i:Nat=>⟨[(0,.sl DW.tSlice x),(1,.sc (.int .i64 (szr left (x.length+Go.Proofs.YtpdiggaapdhffaaGreat.tSliceS (x.take i))))),(5,.sc (.int .i64 i))],[]⟩) (fun i=>i<=x.length/\0<=szr left (x.length+Go.Proofs.YtpdiggaapdhffaaGreat.tSliceS (x.take i))) (fun i=>x.length - i) 0 ?_ ⟨Nat.zero_le _,by
   have e:szr left (x.length+Go.Proofs.YtpdiggaapdhffaaGreat.tSliceS (x.take 0))=left - x.length:=by simp [Go.Proofs.YtpdiggaapdhffaaGreat.tSliceS]; exact (szr_ge (by omega)).symm
   rw [e]; omega⟩ ?_
  ·have e:szr left (x.length+Go.Proofs.YtpdiggaapdhffaaGreat.tSliceS (x.take 0))=left - x.length:=by simp [Go.Proofs.YtpdiggaapdhffaaGreat.tSliceS]; exact (szr_ge (by omega)).symm
   rw [e]
   exact WK
  ·rintro i ⟨hi,hle⟩
   have hr1:=szr_lo left (x.length+Go.Proofs.YtpdiggaapdhffaaGreat.tSliceS (x.take i)) h0
   try simp (maxSteps:=9^9) only[go_sem]
   refine CondW_dec (fun hA=>?_) (fun hA=>?_)
   ·have hlt:i < x.length:=by omega
    have hts:Go.Proofs.YtpdiggaapdhffaaGreat.tSliceS (x.take i)+Go.Proofs.YtpdiggaapdhffaaGreat.tSlice x[i]=Go.Proofs.YtpdiggaapdhffaaGreat.tSliceS (x.take (i+1)):=by rw [List.take_succ_eq_append_getElem hlt,tSliceS_snoc]
    have c1:=szSlice_fn (nth (t:=DW.tSlice) x i) (szr left (x.length+Go.Proofs.YtpdiggaapdhffaaGreat.tSliceS (x.take i))) hle (by omega)
    rw [nth_lt hlt,szr_add _ _ _ hle,Nat.add_assoc,hts] at c1
    rw [<-nth_lt (t:=DW.tSlice) hlt] at c1
    have hr2:=szr_lo left (x.length+Go.Proofs.YtpdiggaapdhffaaGreat.tSliceS (x.take (i+1))) h0
    by_cases e1:szr left (x.length+Go.Proofs.YtpdiggaapdhffaaGreat.tSliceS (x.take (i+1))) < 0
    ·have d1:=decide_eq_true e1
     have hf:=szr_fail e1 (b:=x.length+Go.Proofs.YtpdiggaapdhffaaGreat.tSliceS x) (Nat.add_le_add_left (tSliceS_take x (i+1)) _)
     rw [<-hf]
     try simp (maxSteps:=9^9) only[go_sem]
     repeat refine AI ?_
     repeat refine AI ?_
     refine cw c1 ?_
     try simp (maxSteps:=9^9) only[go_sem]
     try simp (maxSteps:=9^9) only[go_sem,d1]
     all_goals repeat refine AI ?_
     all_goals first|kernel_rfl|omega|rfl
    ·have d1:=decide_eq_false e1
     try simp (maxSteps:=9^9) only[go_sem]
     repeat refine AI ?_
     repeat refine AI ?_
     refine cw c1 ?_
     try simp (maxSteps:=9^9) only[go_sem]
     try simp (maxSteps:=9^9) only[go_sem,d1]
     repeat refine AI ?_
     refine LoopK.mk (i+1) ?_ ⟨by omega,by omega⟩ (by omega)
     exact WK
   ·have hi2:i=x.length:=by omega
    subst hi2
    rw [List.take_length] at hr1 ⊢
    try simp (maxSteps:=9^9) only[go_sem]
    all_goals repeat refine AI ?_
    all_goals first|kernel_rfl|omega|rfl
theorem toSliceS_fn (x:DSliceS) (hs:x.length+Go.Proofs.YtpdiggaapdhffaaGreat.tSliceS x<=1048576):Fn Tryz.prog 24 [⟨.slice DW.tSlice,x⟩] true [⟨.slice DW.tSlice,x⟩]:=by
 refine fe Tryz.func24 Tryz.ntmps24 Tryz.results24 fun hwf=>?_
 try simp (maxSteps:=9^9) only[go_sem]
 repeat refine AI ?_
 refine LoopG.intro _ _ _ (fun i:Nat=>⟨[(0,.sl DW.tSlice x),(3,.row 0 0),(4,.sc (.int .i64 i))],[(0,.row 65 DW.tSlice 0 true (x.take i++List.replicate (x.length - i) (((0:Int),false,(((0:Int),(0:Int)),((0:Int),(0:Int))),[],[],[],[],[]):DSlice)))]⟩) (fun i=>i<=x.length) (fun i=>x.length - i) 0 ?_ (Nat.zero_le _) ?_
 ·exact WK
 ·rintro i hi
  have hlen:(x.take i++List.replicate (x.length - i) (((0:Int),false,(((0:Int),(0:Int)),((0:Int),(0:Int))),[],[],[],[],[]):DSlice)).length=x.length:=by simp; omega
  try simp (maxSteps:=9^9) only[go_sem]
  refine CondW_dec (fun hA=>?_) (fun hA=>?_)
  ·have hlt:i < x.length:=by omega
   have hset:(x.take i++List.replicate (x.length - i) (((0:Int),false,(((0:Int),(0:Int)),((0:Int),(0:Int))),[],[],[],[],[]):DSlice)).set i (nth (t:=DW.tSlice) x i)=x.take (i+1)++List.replicate (x.length - (i+1)) (((0:Int),false,(((0:Int),(0:Int)),((0:Int),(0:Int))),[],[],[],[],[]):DSlice):=by
    rw [List.set_append_right _ _ (by rw [List.length_take]; omega),List.length_take,show i - min i x.length=0 by omega,show x.length - i=(x.length - (i+1))+1 by omega,List.replicate_succ,List.set_cons_zero,nth_lt hlt]
    have e:x.take (i+1)=x.take i++[x[i]]:=List.take_succ_eq_append_getElem hlt
    rw [e,List.append_assoc]; rfl
   have ht:(List.take i x).length=i:=by rw [List.length_take]; omega
   have c1:=toSlice_fn (nth (t:=DW.tSlice) x i) (by rw [nth_lt hlt]; have:=tSliceS_mem hlt; omega)
   try simp (maxSteps:=9^9) only[go_sem]
   repeat refine AI ?_
   repeat refine AI ?_
   refine cw c1 ?_
   try simp (maxSteps:=9^9) only[go_sem]
   repeat refine AI ?_
   refine LoopK.mk (i+1) ?_ (by omega) (by omega)
   rw [<-hset]
   exact WK
  ·have:x.take i++List.replicate (x.length - i) (((0:Int),false,(((0:Int),(0:Int)),((0:Int),(0:Int))),[],[],[],[],[]):DSlice)=x:=by
    rw [List.take_of_length_le (by omega),show x.length - i=0 by omega]; simp
   rw [this]
   try simp (maxSteps:=9^9) only[go_sem]
   all_goals repeat refine AI ?_
   all_goals first|kernel_rfl|omega|rfl
theorem eqSliceS_fn (x y:DSliceS):Fn Tryz.prog 32 [⟨.slice DW.tSlice,x⟩,⟨.slice DW.tSlice,y⟩] false [⟨.bool,eqb x y⟩]:=by
 by_cases h0:(x.length:Int)=y.length
 ·have d0:=decide_eq_true h0
  refine fe Tryz.func32 Tryz.ntmps32 Tryz.results32 fun hwf=>?_
  have hl:x.length<=9223372036854775807:=(hwf ⟨.slice DW.tSlice,x⟩ (by simp)).1
  try simp (maxSteps:=9^9) only[go_sem,d0]
  refine LoopG.intro _ _ _ (fun i:Nat=>⟨[(0,.sl DW.tSlice x),(1,.sl DW.tSlice y),(5,.sc (.int .i64 i))],[]⟩) (fun i=>∀ j,j < i->j < x.length->nth (t:=DW.tSlice) x j=nth (t:=DW.tSlice) y j) (fun i=>x.length - i) 0 ?_ (fun j h=>absurd h (Nat.not_lt_zero _)) ?_
  ·exact WK
  ·rintro i hi
   try simp (maxSteps:=9^9) only[go_sem]
   refine CondW_dec (fun hA=>?_) (fun hA=>?_)
   ·have c1:=eqSlice_fn (nth (t:=DW.tSlice) x i) (nth (t:=DW.tSlice) y i)
    by_cases e:nth (t:=DW.tSlice) x i=nth (t:=DW.tSlice) y i
    ·rw [eqb_true e] at c1
     try simp (maxSteps:=9^9) only[go_sem]
     repeat refine AI ?_
     repeat refine AI ?_
     refine cw c1 ?_
     try simp (maxSteps:=9^9) only[go_sem]
     repeat refine AI ?_
     refine LoopK.mk (i+1) ?_ (fun j h1 h2=>?_) (by omega)
     ·exact WK
     ·by_cases h3:j < i
      ·exact hi j h3 h2
      ·rw [show j=i by omega]; exact e
    ·rw [eqb_false e] at c1
     rw [eqb_false (fun h=>e (by rw [h]))]
     try simp (maxSteps:=9^9) only[go_sem]
     repeat refine AI ?_
     repeat refine AI ?_
     refine cw c1 ?_
     try simp (maxSteps:=9^9) only[go_sem]
     all_goals repeat refine AI ?_
     all_goals first|kernel_rfl|omega|rfl
   ·have:x=y:=by
     refine List.ext_getElem (by omega) fun j h1 h2=>?_
     have:=hi j (by omega) h1
     rwa [nth_lt h1,nth_lt h2] at this
    rw [eqb_true this]
    try simp (maxSteps:=9^9) only[go_sem]
 ·have d0:=decide_eq_false h0
  rw [eqb_false (fun h=>h0 (by rw [h]))]
  refine fe Tryz.func32 Tryz.ntmps32 Tryz.results32 fun hwf=>?_
  try simp (maxSteps:=9^9) only[go_sem,d0]
theorem szRoad_fn (x:DRoad) (left:Int) (h0:0<=left) (h1:left<=1048576):Fn Tryz.prog 4 [⟨DW.tRoad,x⟩,⟨.int,left⟩] false [⟨.int,szr left (Go.Proofs.YtpdiggaapdhffaaGreat.tRoad x)⟩]:=by
 obtain ⟨v0,v1,v2,v3⟩:=x
 have hT:Go.Proofs.YtpdiggaapdhffaaGreat.tRoad (v0,v1,v2,v3)=Go.Proofs.YtpdiggaapdhffaaGreat.tScene v0+(v1.length+Go.Proofs.YtpdiggaapdhffaaGreat.tSliceS v1)+v2.length+(v3.length+Go.Proofs.YtpdiggaapdhffaaGreat.tIntSS v3):=rfl
 have c1:=szScene_fn v0 left h0 h1
 have r1:=szr_lo left (Go.Proofs.YtpdiggaapdhffaaGreat.tScene v0) h0
 by_cases e1:szr left (Go.Proofs.YtpdiggaapdhffaaGreat.tScene v0) < 0
 ·have d1:=decide_eq_true e1
  rw [<-szr_fail e1 (b:=Go.Proofs.YtpdiggaapdhffaaGreat.tRoad (v0,v1,v2,v3)) (by omega)]
  refine fe Tryz.func4 Tryz.ntmps4 Tryz.results4 fun hwf=>?_
  try simp (maxSteps:=9^9) only[go_sem]
  repeat refine AI ?_
  repeat refine AI ?_
  refine cw c1 ?_
  try simp (maxSteps:=9^9) only[go_sem]
  try simp (maxSteps:=9^9) only[go_sem,d1]
  all_goals repeat refine AI ?_
  all_goals first|kernel_rfl|omega|rfl
 ·have d1:=decide_eq_false e1
  have c2:=szSliceS_fn v1 (szr left (Go.Proofs.YtpdiggaapdhffaaGreat.tScene v0)) (by omega) (by omega)
  rw [szr_add _ _ _ (by omega)] at c2
  have r2:=szr_lo left (Go.Proofs.YtpdiggaapdhffaaGreat.tScene v0+(v1.length+Go.Proofs.YtpdiggaapdhffaaGreat.tSliceS v1)) h0
  by_cases e2:szr left (Go.Proofs.YtpdiggaapdhffaaGreat.tScene v0+(v1.length+Go.Proofs.YtpdiggaapdhffaaGreat.tSliceS v1)) < 0
  ·have d2:=decide_eq_true e2
   rw [<-szr_fail e2 (b:=Go.Proofs.YtpdiggaapdhffaaGreat.tRoad (v0,v1,v2,v3)) (by omega)]
   refine fe Tryz.func4 Tryz.ntmps4 Tryz.results4 fun hwf=>?_
   try simp (maxSteps:=9^9) only[go_sem]
   repeat refine AI ?_
   repeat refine AI ?_
   refine cw c1 ?_
   try simp (maxSteps:=9^9) only[go_sem]
   try simp (maxSteps:=9^9) only[go_sem,d1]
   repeat refine AI ?_
   repeat refine AI ?_
   refine cw c2 ?_
   try simp (maxSteps:=9^9) only[go_sem]
   try simp (maxSteps:=9^9) only[go_sem,d2]
   all_goals repeat refine AI ?_
   all_goals first|kernel_rfl|omega|rfl
  ·have d2:=decide_eq_false e2
   have c3:=szIntS_fn v2 (szr left (Go.Proofs.YtpdiggaapdhffaaGreat.tScene v0+(v1.length+Go.Proofs.YtpdiggaapdhffaaGreat.tSliceS v1))) (by omega) (by omega)
   rw [szr_add _ _ _ (by omega)] at c3
   have r3:=szr_lo left (Go.Proofs.YtpdiggaapdhffaaGreat.tScene v0+(v1.length+Go.Proofs.YtpdiggaapdhffaaGreat.tSliceS v1)+v2.length) h0
   by_cases e3:szr left (Go.Proofs.YtpdiggaapdhffaaGreat.tScene v0+(v1.length+Go.Proofs.YtpdiggaapdhffaaGreat.tSliceS v1)+v2.length) < 0
   ·have d3:=decide_eq_true e3
    rw [<-szr_fail e3 (b:=Go.Proofs.YtpdiggaapdhffaaGreat.tRoad (v0,v1,v2,v3)) (by omega)]
    refine fe Tryz.func4 Tryz.ntmps4 Tryz.results4 fun hwf=>?_
    try simp (maxSteps:=9^9) only[go_sem]
    repeat refine AI ?_
    repeat refine AI ?_
    refine cw c1 ?_
    try simp (maxSteps:=9^9) only[go_sem]
    try simp (maxSteps:=9^9) only[go_sem,d1]
    repeat refine AI ?_
    repeat refine AI ?_
    refine cw c2 ?_
    try simp (maxSteps:=9^9) only[go_sem]
    try simp (maxSteps:=9^9) only[go_sem,d2]
    repeat refine AI ?_
    repeat refine AI ?_
    refine cw c3 ?_
    try simp (maxSteps:=9^9) only[go_sem]
    try simp (maxSteps:=9^9) only[go_sem,d3]
    all_goals repeat refine AI ?_
    all_goals first|kernel_rfl|omega|rfl
   ·have d3:=decide_eq_false e3
    have c4:=szIntSS_fn v3 (szr left (Go.Proofs.YtpdiggaapdhffaaGreat.tScene v0+(v1.length+Go.Proofs.YtpdiggaapdhffaaGreat.tSliceS v1)+v2.length)) (by omega) (by omega)
    rw [szr_add _ _ _ (by omega)] at c4
    have r4:=szr_lo left (Go.Proofs.YtpdiggaapdhffaaGreat.tScene v0+(v1.length+Go.Proofs.YtpdiggaapdhffaaGreat.tSliceS v1)+v2.length+(v3.length+Go.Proofs.YtpdiggaapdhffaaGreat.tIntSS v3)) h0
    by_cases e4:szr left (Go.Proofs.YtpdiggaapdhffaaGreat.tScene v0+(v1.length+Go.Proofs.YtpdiggaapdhffaaGreat.tSliceS v1)+v2.length+(v3.length+Go.Proofs.YtpdiggaapdhffaaGreat.tIntSS v3)) < 0
    ·have d4:=decide_eq_true e4
     rw [hT]
     have e0:szr left (Go.Proofs.YtpdiggaapdhffaaGreat.tScene v0+(v1.length+Go.Proofs.YtpdiggaapdhffaaGreat.tSliceS v1)+v2.length+(v3.length+Go.Proofs.YtpdiggaapdhffaaGreat.tIntSS v3))=-1:=by omega
     rw [e0] at d4 c4 ⊢
     refine fe Tryz.func4 Tryz.ntmps4 Tryz.results4 fun hwf=>?_
     try simp (maxSteps:=9^9) only[go_sem]
     repeat refine AI ?_
     repeat refine AI ?_
     refine cw c1 ?_
     try simp (maxSteps:=9^9) only[go_sem]
     try simp (maxSteps:=9^9) only[go_sem,d1]
     repeat refine AI ?_
     repeat refine AI ?_
     refine cw c2 ?_
     try simp (maxSteps:=9^9) only[go_sem]
     try simp (maxSteps:=9^9) only[go_sem,d2]
     repeat refine AI ?_
     repeat refine AI ?_
     refine cw c3 ?_
     try simp (maxSteps:=9^9) only[go_sem]
     try simp (maxSteps:=9^9) only[go_sem,d3]
     repeat refine AI ?_
     repeat refine AI ?_
     refine cw c4 ?_
     try simp (maxSteps:=9^9) only[go_sem]
     try simp (maxSteps:=9^9) only[go_sem,d4]
     all_goals repeat refine AI ?_
     all_goals first|kernel_rfl|omega|rfl
    ·have d4:=decide_eq_false e4
     rw [hT]
     refine fe Tryz.func4 Tryz.ntmps4 Tryz.results4 fun hwf=>?_
     try simp (maxSteps:=9^9) only[go_sem]
     repeat refine AI ?_
     repeat refine AI ?_
     refine cw c1 ?_
     try simp (maxSteps:=9^9) only[go_sem]
     try simp (maxSteps:=9^9) only[go_sem,d1]
     repeat refine AI ?_
     repeat refine AI ?_
     refine cw c2 ?_
     try simp (maxSteps:=9^9) only[go_sem]
     try simp (maxSteps:=9^9) only[go_sem,d2]
     repeat refine AI ?_
     repeat refine AI ?_
     refine cw c3 ?_
     try simp (maxSteps:=9^9) only[go_sem]
     try simp (maxSteps:=9^9) only[go_sem,d3]
     repeat refine AI ?_
     repeat refine AI ?_
     refine cw c4 ?_
     try simp (maxSteps:=9^9) only[go_sem]
     try simp (maxSteps:=9^9) only[go_sem,d4]
     all_goals repeat refine AI ?_
     all_goals first|kernel_rfl|omega|rfl
theorem toRoad_fn (x:DRoad) (hs:Go.Proofs.YtpdiggaapdhffaaGreat.tRoad x<=1048576):Fn Tryz.prog 7 [⟨DW.tRoad,x⟩] true [⟨DW.tRoad,x⟩]:=by
 obtain ⟨v0,v1,v2,v3⟩:=x
 have hT:Go.Proofs.YtpdiggaapdhffaaGreat.tRoad (v0,v1,v2,v3)=Go.Proofs.YtpdiggaapdhffaaGreat.tScene v0+(v1.length+Go.Proofs.YtpdiggaapdhffaaGreat.tSliceS v1)+v2.length+(v3.length+Go.Proofs.YtpdiggaapdhffaaGreat.tIntSS v3):=rfl
 have c0:=toScene_fn v0 (by omega)
 have c1:=toSliceS_fn v1 (by omega)
 have c2:=toIntS_fn v2 (by omega)
 have c3:=toIntSS_fn v3 (by omega)
 refine fe Tryz.func7 Tryz.ntmps7 Tryz.results7 fun hwf=>?_
 try simp (maxSteps:=9^9) only[go_sem]
 repeat refine AI ?_
 repeat refine AI ?_
 refine cw c0 ?_
 try simp (maxSteps:=9^9) only[go_sem]
 repeat refine AI ?_
 repeat refine AI ?_
 refine cw c1 ?_
 try simp (maxSteps:=9^9) only[go_sem]
 repeat refine AI ?_
 repeat refine AI ?_
 refine cw c2 ?_
 try simp (maxSteps:=9^9) only[go_sem]
 repeat refine AI ?_
 repeat refine AI ?_
 refine cw c3 ?_
 try simp (maxSteps:=9^9) only[go_sem]
 all_goals repeat refine AI ?_
 all_goals first|kernel_rfl|omega|rfl
theorem eqRoad_fn (x y:DRoad):Fn Tryz.prog 11 [⟨DW.tRoad,x⟩,⟨DW.tRoad,y⟩] false [⟨.bool,eqb x y⟩]:=by
 obtain ⟨v0,v1,v2,v3⟩:=x
 obtain ⟨w0,w1,w2,w3⟩:=y
 have c0:=eqScene_fn v0 w0
 have c1:=eqSliceS_fn v1 w1
 have c2:=eqIntS_fn v2 w2
 have c3:=eqIntSS_fn v3 w3
 by_cases e0:v0=w0
 rotate_left
 ·rw [eqb_false e0] at c0
  rw [eqb_false (fun h=>e0 (congrArg (fun z=>z.1) h))]
  refine fe Tryz.func11 Tryz.ntmps11 Tryz.results11 fun hwf=>?_
  try simp (maxSteps:=9^9) only[go_sem]
  repeat refine AI ?_
  repeat refine AI ?_
  refine cw c0 ?_
  try simp (maxSteps:=9^9) only[go_sem]
  all_goals repeat refine AI ?_
  all_goals first|kernel_rfl|omega|rfl
 rw [eqb_true e0] at c0
 by_cases e1:v1=w1
 rotate_left
 ·rw [eqb_false e1] at c1
  rw [eqb_false (fun h=>e1 (congrArg (fun z=>z.2.1) h))]
  refine fe Tryz.func11 Tryz.ntmps11 Tryz.results11 fun hwf=>?_
  try simp (maxSteps:=9^9) only[go_sem]
  repeat refine AI ?_
  repeat refine AI ?_
  refine cw c0 ?_
  try simp (maxSteps:=9^9) only[go_sem]
  repeat refine AI ?_
  repeat refine AI ?_
  refine cw c1 ?_
  try simp (maxSteps:=9^9) only[go_sem]
  all_goals repeat refine AI ?_
  all_goals first|kernel_rfl|omega|rfl
 rw [eqb_true e1] at c1
 by_cases e2:v2=w2
 rotate_left
 ·rw [eqb_false e2] at c2
  rw [eqb_false (fun h=>e2 (congrArg (fun z=>z.2.2.1) h))]
  refine fe Tryz.func11 Tryz.ntmps11 Tryz.results11 fun hwf=>?_
  try simp (maxSteps:=9^9) only[go_sem]
  repeat refine AI ?_
  repeat refine AI ?_
  refine cw c0 ?_
  try simp (maxSteps:=9^9) only[go_sem]
  repeat refine AI ?_
  repeat refine AI ?_
  refine cw c1 ?_
  try simp (maxSteps:=9^9) only[go_sem]
  repeat refine AI ?_
  repeat refine AI ?_
  refine cw c2 ?_
  try simp (maxSteps:=9^9) only[go_sem]
  all_goals repeat refine AI ?_
  all_goals first|kernel_rfl|omega|rfl
 rw [eqb_true e2] at c2
 by_cases e3:v3=w3
 rotate_left
 ·rw [eqb_false e3] at c3
  rw [eqb_false (fun h=>e3 (congrArg (fun z=>z.2.2.2) h))]
  refine fe Tryz.func11 Tryz.ntmps11 Tryz.results11 fun hwf=>?_
  try simp (maxSteps:=9^9) only[go_sem]
  repeat refine AI ?_
  repeat refine AI ?_
  refine cw c0 ?_
  try simp (maxSteps:=9^9) only[go_sem]
  repeat refine AI ?_
  repeat refine AI ?_
  refine cw c1 ?_
  try simp (maxSteps:=9^9) only[go_sem]
  repeat refine AI ?_
  repeat refine AI ?_
  refine cw c2 ?_
  try simp (maxSteps:=9^9) only[go_sem]
  repeat refine AI ?_
  repeat refine AI ?_
  refine cw c3 ?_
  try simp (maxSteps:=9^9) only[go_sem]
  all_goals repeat refine AI ?_
  all_goals first|kernel_rfl|omega|rfl
 rw [eqb_true e3] at c3
 rw [eqb_true (by rw [e0,e1,e2,e3])]
 refine fe Tryz.func11 Tryz.ntmps11 Tryz.results11 fun hwf=>?_
 try simp (maxSteps:=9^9) only[go_sem]
 repeat refine AI ?_
 repeat refine AI ?_
 refine cw c0 ?_
 try simp (maxSteps:=9^9) only[go_sem]
 repeat refine AI ?_
 repeat refine AI ?_
 refine cw c1 ?_
 try simp (maxSteps:=9^9) only[go_sem]
 repeat refine AI ?_
 repeat refine AI ?_
 refine cw c2 ?_
 try simp (maxSteps:=9^9) only[go_sem]
 repeat refine AI ?_
 repeat refine AI ?_
 refine cw c3 ?_
 try simp (maxSteps:=9^9) only[go_sem]
 all_goals repeat refine AI ?_
 all_goals first|kernel_rfl|omega|rfl
end DW
abbrev DDoor:=DVec
abbrev RDoor:Rp DDoor:=RVec
theorem list10 {α:Type} {l:List α} (h:l.length=10):∃ c0 c1 c2 c3 c4 c5 c6 c7 c8 c9,l=[c0,c1,c2,c3,c4,c5,c6,c7,c8,c9]:=by
 match l,h with
 | [c0,c1,c2,c3,c4,c5,c6,c7,c8,c9],_=>exact ⟨c0,c1,c2,c3,c4,c5,c6,c7,c8,c9,rfl⟩
theorem list11 {α:Type} {l:List α} (h:l.length=11):∃ c0 c1 c2 c3 c4 c5 c6 c7 c8 c9 c10,l=[c0,c1,c2,c3,c4,c5,c6,c7,c8,c9,c10]:=by
 match l,h with
 | [c0,c1,c2,c3,c4,c5,c6,c7,c8,c9,c10],_=>exact ⟨c0,c1,c2,c3,c4,c5,c6,c7,c8,c9,c10,rfl⟩
theorem list18 {α:Type} {l:List α} (h:l.length=18):∃ c0 c1 c2 c3 c4 c5 c6 c7 c8 c9 c10 c11 c12 c13 c14 c15 c16 c17,l=[c0,c1,c2,c3,c4,c5,c6,c7,c8,c9,c10,c11,c12,c13,c14,c15,c16,c17]:=by
 match l,h with
 | [c0,c1,c2,c3,c4,c5,c6,c7,c8,c9,c10,c11,c12,c13,c14,c15,c16,c17],_=>exact ⟨c0,c1,c2,c3,c4,c5,c6,c7,c8,c9,c10,c11,c12,c13,c14,c15,c16,c17,rfl⟩
def ecBox (x:DBox):Nat:=ecVec x.1+ecVec x.2
def emBox (x:DBox) (k:Int):DBox:=(emVec x.1 k,emVec x.2 (k+ecVec x.1))
def ecDoor (x:DDoor):Nat:=1+1
def emDoor (x:DDoor) (k:Int):DDoor:=(k,k+1)
def cnDoorS:DDoorS->Nat
 | []=>0
 | x :: l=>ecDoor x+cnDoorS l
theorem cnDoorS_snoc (l:DDoorS) (x:DDoor):cnDoorS (l++[x])=cnDoorS l+ecDoor x:=by
 induction l with
 | nil=>simp [cnDoorS]
 | cons y l ih=>simp [cnDoorS,ih]; omega
theorem cnDoorS_take (l:DDoorS) (k:Nat):cnDoorS (l.take k)<=cnDoorS l:=by
 induction l generalizing k with
 | nil=>simp [cnDoorS]
 | cons y l ih=>cases k with
  | zero=>simp [cnDoorS]
  | succ k=>have:=ih k; simp [cnDoorS]; omega
def mkDoorS:DDoorS->Int->DDoorS
 | [],_=>[]
 | x :: l,k=>emDoor x k :: mkDoorS l (k+ecDoor x)
theorem mkDoorS_len (l:DDoorS) (k:Int):(mkDoorS l k).length=l.length:=by
 induction l generalizing k with
 | nil=>rfl
 | cons y l ih=>simp [mkDoorS,ih]
theorem mkDoorS_snoc (l:DDoorS) (x:DDoor) (k:Int):mkDoorS (l++[x]) k=mkDoorS l k++[emDoor x (k+cnDoorS l)]:=by
 induction l generalizing k with
 | nil=>simp [mkDoorS,cnDoorS]
 | cons y l ih=>simp only [List.cons_append,mkDoorS,ih,cnDoorS]; rw [show k+(ecDoor y:Int)+(cnDoorS l:Int)=k+((ecDoor y+cnDoorS l:Nat):Int) from by omega]
def ecCell (x:DCell):Nat:=ecRat x.1+ecRat x.2.1+ecRat x.2.2.1+ecRat x.2.2.2.1+ecRat x.2.2.2.2.1+ecRat x.2.2.2.2.2
def emCell (x:DCell) (k:Int):DCell:=(emRat x.1 k,emRat x.2.1 (k+ecRat x.1),emRat x.2.2.1 (k+ecRat x.1+ecRat x.2.1),emRat x.2.2.2.1 (k+ecRat x.1+ecRat x.2.1+ecRat x.2.2.1),emRat x.2.2.2.2.1 (k+ecRat x.1+ecRat x.2.1+ecRat x.2.2.1+ecRat x.2.2.2.1),emRat x.2.2.2.2.2 (k+ecRat x.1+ecRat x.2.1+ecRat x.2.2.1+ecRat x.2.2.2.1+ecRat x.2.2.2.2.1))
def cnCellS:DCellS->Nat
 | []=>0
 | x :: l=>ecCell x+cnCellS l
theorem cnCellS_snoc (l:DCellS) (x:DCell):cnCellS (l++[x])=cnCellS l+ecCell x:=by
 induction l with
 | nil=>simp [cnCellS]
 | cons y l ih=>simp [cnCellS,ih]; omega
theorem cnCellS_take (l:DCellS) (k:Nat):cnCellS (l.take k)<=cnCellS l:=by
 induction l generalizing k with
 | nil=>simp [cnCellS]
 | cons y l ih=>cases k with
  | zero=>simp [cnCellS]
  | succ k=>have:=ih k; simp [cnCellS]; omega
def mkCellS:DCellS->Int->DCellS
 | [],_=>[]
 | x :: l,k=>emCell x k :: mkCellS l (k+ecCell x)
theorem mkCellS_len (l:DCellS) (k:Int):(mkCellS l k).length=l.length:=by
 induction l generalizing k with
 | nil=>rfl
 | cons y l ih=>simp [mkCellS,ih]
theorem mkCellS_snoc (l:DCellS) (x:DCell) (k:Int):mkCellS (l++[x]) k=mkCellS l k++[emCell x (k+cnCellS l)]:=by
 induction l generalizing k with
 | nil=>simp [mkCellS,cnCellS]
 | cons y l ih=>simp only [List.cons_append,mkCellS,ih,cnCellS]; rw [show k+(ecCell y:Int)+(cnCellS l:Int)=k+((ecCell y+cnCellS l:Nat):Int) from by omega]
def ecWall (x:DWall):Nat:=ecRat x.1+ecRat x.2.1+ecRat x.2.2
def emWall (x:DWall) (k:Int):DWall:=(emRat x.1 k,emRat x.2.1 (k+ecRat x.1),emRat x.2.2 (k+ecRat x.1+ecRat x.2.1))
def cnWallS:DWallS->Nat
 | []=>0
 | x :: l=>ecWall x+cnWallS l
theorem cnWallS_snoc (l:DWallS) (x:DWall):cnWallS (l++[x])=cnWallS l+ecWall x:=by
 induction l with
 | nil=>simp [cnWallS]
 | cons y l ih=>simp [cnWallS,ih]; omega
theorem cnWallS_take (l:DWallS) (k:Nat):cnWallS (l.take k)<=cnWallS l:=by
 induction l generalizing k with
 | nil=>simp [cnWallS]
 | cons y l ih=>cases k with
  | zero=>simp [cnWallS]
  | succ k=>have:=ih k; simp [cnWallS]; omega
def mkWallS:DWallS->Int->DWallS
 | [],_=>[]
 | x :: l,k=>emWall x k :: mkWallS l (k+ecWall x)
theorem mkWallS_len (l:DWallS) (k:Int):(mkWallS l k).length=l.length:=by
 induction l generalizing k with
 | nil=>rfl
 | cons y l ih=>simp [mkWallS,ih]
theorem mkWallS_snoc (l:DWallS) (x:DWall) (k:Int):mkWallS (l++[x]) k=mkWallS l k++[emWall x (k+cnWallS l)]:=by
 induction l generalizing k with
 | nil=>simp [mkWallS,cnWallS]
 | cons y l ih=>simp only [List.cons_append,mkWallS,ih,cnWallS]; rw [show k+(ecWall y:Int)+(cnWallS l:Int)=k+((ecWall y+cnWallS l:Nat):Int) from by omega]
def cnIntSS:DIntSS->Nat
 | []=>0
 | x :: l=>x.length+cnIntSS l
theorem cnIntSS_snoc (l:DIntSS) (x:DIntS):cnIntSS (l++[x])=cnIntSS l+x.length:=by
 induction l with
 | nil=>simp [cnIntSS]
 | cons y l ih=>simp [cnIntSS,ih]; omega
theorem cnIntSS_take (l:DIntSS) (k:Nat):cnIntSS (l.take k)<=cnIntSS l:=by
 induction l generalizing k with
 | nil=>simp [cnIntSS]
 | cons y l ih=>cases k with
  | zero=>simp [cnIntSS]
  | succ k=>have:=ih k; simp [cnIntSS]; omega
def mkIntSS:DIntSS->Int->DIntSS
 | [],_=>[]
 | x :: l,k=>mkIntS x k :: mkIntSS l (k+x.length)
theorem mkIntSS_len (l:DIntSS) (k:Int):(mkIntSS l k).length=l.length:=by
 induction l generalizing k with
 | nil=>rfl
 | cons y l ih=>simp [mkIntSS,ih]
theorem mkIntSS_snoc (l:DIntSS) (x:DIntS) (k:Int):mkIntSS (l++[x]) k=mkIntSS l k++[mkIntS x (k+cnIntSS l)]:=by
 induction l generalizing k with
 | nil=>simp [mkIntSS,cnIntSS]
 | cons y l ih=>simp only [List.cons_append,mkIntSS,ih,cnIntSS]; rw [show k+(y.length:Int)+(cnIntSS l:Int)=k+((y.length+cnIntSS l:Nat):Int) from by omega]
set_option maxHeartbeats 400000 in
theorem markIntSS_any (v:Value) (x:DIntSS) (k:Int) (fp:List Nat) (w:World) (hx:RIntSS.rep w [v] x fp) (hn:fp.Nodup) (hf:∀ b ∈ fp,Free w b) (h0:0<=k) (h1:k+cnIntSS x<=1073741824) :
  Calls Tryz.prog 38 #[v,.int .i64 k] w (Post (MarkPost RIntSS [v] (mkIntSS x k) fp (k+cnIntSS x) w)):=by
 obtain ⟨ad,c,hv,hlc,hm,hh⟩:=hx
 injection hv with hv
 subst hv
 unfold maxLen at hm
 rcases hh with ⟨rfl,rfl⟩|⟨b,off,fps,hl,rfl,rfl,he⟩
 ·go_enter Tryz.func38,Tryz.ntmps38
  go_wp2
  go_loopw [1,5] (fun kk i wr=>i=.int .i64 0/\kk=.int .i64 k/\wr=w) (fun _ _ _=>0)
  case atStart=>exact ⟨rfl,rfl,rfl⟩
  case round =>
   obtain ⟨rfl,rfl,rfl⟩:=hrel
   go_wp2
   go_ret
   exact ⟨_,rfl,congrArg (Value.int .i64) (by simp [cnIntSS]),⟨ad,c,rfl,hlc,by unfold maxLen; omega,.inl ⟨rfl,rfl⟩⟩,Upto.refl _ _⟩
 have HN:=Lib.hid hn; have HF:=Lib.hid hf; have HE:=Lib.hid he; have HL:=Lib.hid hl; clear hn hf he hl
 go_enter Tryz.func38,Tryz.ntmps38
 go_wp2
 go_loopw [1,5] (fun kk i wr=>∃ j:Nat,j<=x.length/\i=.int .i64 j/\kk=.int .i64 (k+(cnIntSS (x.take j):Nat))/\Elems RIntS wr b off (mkIntSS (x.take j) k++x.drop j) fps/\Upto (b :: fps.flatten) w wr) (fun _ i _=>x.length - (intOf i).toNat)
 case atStart=>exact ⟨0,Nat.zero_le _,rfl,congrArg (Value.int .i64) (by simp [cnIntSS]),by simpa [mkIntSS] using HE.out,Upto.refl _ _⟩
 case round =>
  obtain ⟨j,hj,rfl,rfl,hE,hU⟩:=hrel
  have HEr:=Lib.hid hE; have HU:=Lib.hid hU; clear hE hU
  by_cases hjl:j < x.length
  rotate_left
  ·obtain rfl:j=x.length:=by omega
   go_wp2
   go_ret
   have h:=HEr.out
   rw [List.take_length,List.drop_length,List.append_nil] at h
   have hml:=mkIntSS_len x k
   exact ⟨_,rfl,congrArg (Value.int .i64) (by rw [List.take_length]),⟨_,c,by rw [hml],by rw [hml]; exact hlc,by unfold maxLen; omega,.inr ⟨b,off,fps,fun e=>HL.out (List.eq_nil_of_length_eq_zero (by rw [<-hml,e]; rfl)),rfl,rfl,h⟩⟩,HU.out⟩
  have hml:(mkIntSS (x.take j) k).length=j:=by rw [mkIntSS_len,List.length_take]; omega
  have hget:(mkIntSS (x.take j) k++x.drop j)[j]? = some x[j]:=by rw [List.getElem?_append_right (by omega),hml]; simp
  obtain ⟨f,cs,hfj,hr,hcs⟩:=HEr.out.2 j _ hget
  have hfr:=HU.out.free b List.mem_cons_self (HF.out b List.mem_cons_self)
  have hbf:b ∉ f:=fun h=>(List.nodup_cons.1 HN.out).1 (flat_mem hfj b h)
  have hff:∀ z ∈ f,Free wr z:=fun z hz=>HU.out.free z (List.mem_cons_of_mem _ (flat_mem hfj z hz)) (HF.out z (List.mem_cons_of_mem _ (flat_mem hfj z hz)))
  have hfn:f.Nodup:=(List.pairwise_flatten.1 (List.nodup_cons.1 HN.out).2).1 f (List.mem_of_getElem? hfj)
  have hec:cnIntSS (x.take j)+x[j].length=cnIntSS (x.take (j+1)):=by rw [List.take_succ_eq_append_getElem hjl,cnIntSS_snoc]
  have hect:=cnIntSS_take x (j+1)
  obtain ⟨q,hq⟩:∃ q:Int,q=k+(cnIntSS (x.take j):Nat):=⟨_,rfl⟩
  have hq0:0<=q:=by omega
  have hq1:q+(x[j].length:Nat)<=1073741824:=by omega
  rw [<-hq]
  have HQ:=Lib.hid hq; have HEC:=Lib.hid hec; have HML:=Lib.hid hml; have HFJ:=Lib.hid hfj
  clear hq hec hml hget hfj hect
  obtain ⟨c0,rfl⟩:=list1 (RIntS.len hr)
  have HR:=Lib.hid hr; have HFF:=Lib.hid hff; have HBF:=Lib.hid hbf; have HFN:=Lib.hid hfn; clear hr hff hbf hfn
  have hbl0:b < wr.heap.size:=hfr.lt
  have g0:wr.cell? ⟨b,off+j,none⟩=some c0:=by simpa [Rp.slice] using hcs 0 _ rfl
  have hl0:(0:Int)<=(x[j].length:Nat):=Int.natCast_nonneg _
  clear hcs hfr
  go_wp2_with fail
  refine (markIntS_any _ _ _ f _ HR.out HFN.out HFF.out (by omega) (by omega)).mono ?_
  rintro e w1 ⟨v,rfl,rfl,hmm,hu1⟩
  have HMM:=Lib.hid hmm; have HU1:=Lib.hid hu1
  have hcb1:=hu1.cell (b:=b) hbl0 HBF.out
  clear hmm hu1
  go_wp2
  go_roundw
  case rel =>
   have e0:w1.cell? ⟨b,off+j,none⟩=some c0:=by simp [go_sem,hcb1,g0]
   have hup:=HEr.out.update (w':=w1) (x':=mkIntS x[j] q) (cs':=[c0]) HN.out HFJ.out HMM.out (cells_cons (by simpa [Rp.slice] using e0) cells_nil)
    (fun z hz _ hzf=>HU1.out.block z hz hzf)
    (fun o _=>hcb1 o)
   have e:(mkIntSS (x.take j) k++x.drop j).set j (mkIntS x[j] q)=mkIntSS (x.take (j+1)) k++x.drop (j+1):=by
    rw [List.set_append_right _ _ (by rw [HML.out]; exact Nat.le_refl _),HML.out,Nat.sub_self,List.drop_eq_getElem_cons hjl,List.set_cons_zero,List.take_succ_eq_append_getElem hjl,mkIntSS_snoc,<-HQ.out]
    simp
   rw [e] at hup
   refine ⟨j+1,by omega,by go_num,congrArg (Value.int .i64) ?_,hup,HU.out.trans (HU1.out.mono ?_)⟩
   ·have h1:=HQ.out; have h2:=HEC.out; omega
   ·intro z hz; exact List.mem_cons_of_mem _ (flat_mem HFJ.out z hz)
  case measure=>simp [intOf]; omega
def ecSlice (x:DSlice):Nat:=1+1+ecBox x.2.2.1+cnVecSS x.2.2.2.1+cnCellS x.2.2.2.2.1+cnWallS x.2.2.2.2.2.1+cnDoorS x.2.2.2.2.2.2.1+x.2.2.2.2.2.2.2.length
def emSlice (x:DSlice) (k:Int):DSlice:=(k,((k+1) % 3 == 0),emBox x.2.2.1 (k+1+1),mkVecSS x.2.2.2.1 (k+1+1+ecBox x.2.2.1),mkCellS x.2.2.2.2.1 (k+1+1+ecBox x.2.2.1+cnVecSS x.2.2.2.1),mkWallS x.2.2.2.2.2.1 (k+1+1+ecBox x.2.2.1+cnVecSS x.2.2.2.1+cnCellS x.2.2.2.2.1),mkDoorS x.2.2.2.2.2.2.1 (k+1+1+ecBox x.2.2.1+cnVecSS x.2.2.2.1+cnCellS x.2.2.2.2.1+cnWallS x.2.2.2.2.2.1),mkIntS x.2.2.2.2.2.2.2 (k+1+1+ecBox x.2.2.1+cnVecSS x.2.2.2.1+cnCellS x.2.2.2.2.1+cnWallS x.2.2.2.2.2.1+cnDoorS x.2.2.2.2.2.2.1))
def cnSliceS:DSliceS->Nat
 | []=>0
 | x :: l=>ecSlice x+cnSliceS l
theorem cnSliceS_snoc (l:DSliceS) (x:DSlice):cnSliceS (l++[x])=cnSliceS l+ecSlice x:=by
 induction l with
 | nil=>simp [cnSliceS]
 | cons y l ih=>simp [cnSliceS,ih]; omega
theorem cnSliceS_take (l:DSliceS) (k:Nat):cnSliceS (l.take k)<=cnSliceS l:=by
 induction l generalizing k with
 | nil=>simp [cnSliceS]
 | cons y l ih=>cases k with
  | zero=>simp [cnSliceS]
  | succ k=>have:=ih k; simp [cnSliceS]; omega
def mkSliceS:DSliceS->Int->DSliceS
 | [],_=>[]
 | x :: l,k=>emSlice x k :: mkSliceS l (k+ecSlice x)
theorem mkSliceS_len (l:DSliceS) (k:Int):(mkSliceS l k).length=l.length:=by
 induction l generalizing k with
 | nil=>rfl
 | cons y l ih=>simp [mkSliceS,ih]
theorem mkSliceS_snoc (l:DSliceS) (x:DSlice) (k:Int):mkSliceS (l++[x]) k=mkSliceS l k++[emSlice x (k+cnSliceS l)]:=by
 induction l generalizing k with
 | nil=>simp [mkSliceS,cnSliceS]
 | cons y l ih=>simp only [List.cons_append,mkSliceS,ih,cnSliceS]; rw [show k+(ecSlice y:Int)+(cnSliceS l:Int)=k+((ecSlice y+cnSliceS l:Nat):Int) from by omega]
set_option maxHeartbeats 1000000 in
theorem markCellS_any (v:Value) (x:DCellS) (k:Int) (fp:List Nat) (w:World) (hx:RCellS.rep w [v] x fp) (hn:fp.Nodup) (hf:∀ b ∈ fp,Free w b) (h0:0<=k) (h1:k+cnCellS x<=1073741824) :
  Calls Tryz.prog 55 #[v,.int .i64 k] w (Post (MarkPost RCellS [v] (mkCellS x k) fp (k+cnCellS x) w)):=by
 obtain ⟨ad,c,hv,hlc,hm,hh⟩:=hx
 injection hv with hv
 subst hv
 unfold maxLen at hm
 rcases hh with ⟨rfl,rfl⟩|⟨b,off,fps,hl,rfl,rfl,he⟩
 ·go_enter Tryz.func55,Tryz.ntmps55
  go_wp2
  go_loopw [1,5] (fun kk i wr=>i=.int .i64 0/\kk=.int .i64 k/\wr=w) (fun _ _ _=>0)
  case atStart=>exact ⟨rfl,rfl,rfl⟩
  case round =>
   obtain ⟨rfl,rfl,rfl⟩:=hrel
   go_wp2
   go_ret
   exact ⟨_,rfl,congrArg (Value.int .i64) (by simp [cnCellS]),⟨ad,c,rfl,hlc,by unfold maxLen; omega,.inl ⟨rfl,rfl⟩⟩,Upto.refl _ _⟩
 have HN:=Lib.hid hn; have HF:=Lib.hid hf; have HE:=Lib.hid he; have HL:=Lib.hid hl; clear hn hf he hl
 go_enter Tryz.func55,Tryz.ntmps55
 go_wp2
 go_loopw [1,5] (fun kk i wr=>∃ j:Nat,j<=x.length/\i=.int .i64 j/\kk=.int .i64 (k+(cnCellS (x.take j):Nat))/\Elems RCell wr b off (mkCellS (x.take j) k++x.drop j) fps/\Upto (b :: fps.flatten) w wr) (fun _ i _=>x.length - (intOf i).toNat)
 case atStart=>exact ⟨0,Nat.zero_le _,rfl,congrArg (Value.int .i64) (by simp [cnCellS]),by simpa [mkCellS] using HE.out,Upto.refl _ _⟩
 case round =>
  obtain ⟨j,hj,rfl,rfl,hE,hU⟩:=hrel
  have HEr:=Lib.hid hE; have HU:=Lib.hid hU; clear hE hU
  by_cases hjl:j < x.length
  rotate_left
  ·obtain rfl:j=x.length:=by omega
   go_wp2
   go_ret
   have h:=HEr.out
   rw [List.take_length,List.drop_length,List.append_nil] at h
   have hml:=mkCellS_len x k
   exact ⟨_,rfl,congrArg (Value.int .i64) (by rw [List.take_length]),⟨_,c,by rw [hml],by rw [hml]; exact hlc,by unfold maxLen; omega,.inr ⟨b,off,fps,fun e=>HL.out (List.eq_nil_of_length_eq_zero (by rw [<-hml,e]; rfl)),rfl,rfl,h⟩⟩,HU.out⟩
  have hml:(mkCellS (x.take j) k).length=j:=by rw [mkCellS_len,List.length_take]; omega
  have hget:(mkCellS (x.take j) k++x.drop j)[j]? = some x[j]:=by rw [List.getElem?_append_right (by omega),hml]; simp
  obtain ⟨f,cs,hfj,hr,hcs⟩:=HEr.out.2 j _ hget
  have hfr:=HU.out.free b List.mem_cons_self (HF.out b List.mem_cons_self)
  have hbf:b ∉ f:=fun h=>(List.nodup_cons.1 HN.out).1 (flat_mem hfj b h)
  have hff:∀ z ∈ f,Free wr z:=fun z hz=>HU.out.free z (List.mem_cons_of_mem _ (flat_mem hfj z hz)) (HF.out z (List.mem_cons_of_mem _ (flat_mem hfj z hz)))
  have hfn:f.Nodup:=(List.pairwise_flatten.1 (List.nodup_cons.1 HN.out).2).1 f (List.mem_of_getElem? hfj)
  have hec:cnCellS (x.take j)+ecCell x[j]=cnCellS (x.take (j+1)):=by rw [List.take_succ_eq_append_getElem hjl,cnCellS_snoc]
  have hect:=cnCellS_take x (j+1)
  obtain ⟨q,hq⟩:∃ q:Int,q=k+(cnCellS (x.take j):Nat):=⟨_,rfl⟩
  have hq0:0<=q:=by omega
  have hq1:q+(ecCell x[j]:Nat)<=1073741824:=by omega
  rw [<-hq]
  have HQ:=Lib.hid hq; have HEC:=Lib.hid hec; have HML:=Lib.hid hml; have HFJ:=Lib.hid hfj
  clear hq hec hml hget hfj hect
  obtain ⟨c0,c1,c2,c3,c4,c5,c6,c7,c8,c9,c10,c11,c12,c13,c14,c15,c16,c17,rfl⟩:=list18 (RCell.len hr)
  obtain ⟨f0,f1,rfl,hp0,hp1⟩:=rep_split [c0,c1,c2] [c3,c4,c5,c6,c7,c8,c9,c10,c11,c12,c13,c14,c15,c16,c17] rfl hr
  obtain ⟨f2,f3,rfl,hp2,hp3⟩:=rep_split [c3,c4,c5] [c6,c7,c8,c9,c10,c11,c12,c13,c14,c15,c16,c17] rfl hp1
  obtain ⟨f4,f5,rfl,hp4,hp5⟩:=rep_split [c6,c7,c8] [c9,c10,c11,c12,c13,c14,c15,c16,c17] rfl hp3
  obtain ⟨f6,f7,rfl,hp6,hp7⟩:=rep_split [c9,c10,c11] [c12,c13,c14,c15,c16,c17] rfl hp5
  obtain ⟨f8,f9,rfl,hp8,hp9⟩:=rep_split [c12,c13,c14] [c15,c16,c17] rfl hp7
  obtain ⟨f10,f11,rfl,hp10,hp11⟩:=rep_split [c0,c1] [c2] rfl hp0
  obtain ⟨f12,f13,rfl,hp12,hp13⟩:=rep_split [c0] [c1] rfl hp10
  obtain ⟨f14,f15,rfl,hp14,hp15⟩:=rep_split [c3,c4] [c5] rfl hp2
  obtain ⟨f16,f17,rfl,hp16,hp17⟩:=rep_split [c3] [c4] rfl hp14
  obtain ⟨f18,f19,rfl,hp18,hp19⟩:=rep_split [c6,c7] [c8] rfl hp4
  obtain ⟨f20,f21,rfl,hp20,hp21⟩:=rep_split [c6] [c7] rfl hp18
  obtain ⟨f22,f23,rfl,hp22,hp23⟩:=rep_split [c9,c10] [c11] rfl hp6
  obtain ⟨f24,f25,rfl,hp24,hp25⟩:=rep_split [c9] [c10] rfl hp22
  obtain ⟨f26,f27,rfl,hp26,hp27⟩:=rep_split [c12,c13] [c14] rfl hp8
  obtain ⟨f28,f29,rfl,hp28,hp29⟩:=rep_split [c12] [c13] rfl hp26
  obtain ⟨f30,f31,rfl,hp30,hp31⟩:=rep_split [c15,c16] [c17] rfl hp9
  obtain ⟨f32,f33,rfl,hp32,hp33⟩:=rep_split [c15] [c16] rfl hp30
  obtain ⟨he0,rfl⟩:=hp12
  injection he0 with he0; subst he0
  obtain ⟨he3,rfl⟩:=hp16
  injection he3 with he3; subst he3
  obtain ⟨he6,rfl⟩:=hp20
  injection he6 with he6; subst he6
  obtain ⟨he9,rfl⟩:=hp24
  injection he9 with he9; subst he9
  obtain ⟨he12,rfl⟩:=hp28
  injection he12 with he12; subst he12
  obtain ⟨he15,rfl⟩:=hp32
  injection he15 with he15; subst he15
  have hnd:=hfn
  simp only [List.nil_append,List.append_assoc] at hnd
  have HFF:=Lib.hid hff; have HBF:=Lib.hid hbf; clear hff hbf hfn
  obtain ⟨nd0,hnd0,dd0,de0⟩:=nodup_app hnd
  obtain ⟨nd1,hnd1,dd1,de1⟩:=nodup_app hnd0
  obtain ⟨nd2,hnd2,dd2,de2⟩:=nodup_app hnd1
  obtain ⟨nd3,hnd3,dd3,de3⟩:=nodup_app hnd2
  obtain ⟨nd4,hnd4,dd4,de4⟩:=nodup_app hnd3
  obtain ⟨nd5,hnd5,dd5,de5⟩:=nodup_app hnd4
  obtain ⟨nd6,hnd6,dd6,de6⟩:=nodup_app hnd5
  obtain ⟨nd7,hnd7,dd7,de7⟩:=nodup_app hnd6
  obtain ⟨nd8,hnd8,dd8,de8⟩:=nodup_app hnd7
  obtain ⟨nd9,hnd9,dd9,de9⟩:=nodup_app hnd8
  obtain ⟨nd10,nd11,dd10,de10⟩:=nodup_app hnd9
  have hm0:∀ z ∈ f13,z ∈ ((([]++f13)++f11)++((([]++f17)++f15)++((([]++f21)++f19)++((([]++f25)++f23)++((([]++f29)++f27)++(([]++f33)++f31)))))):=fun z hz=>(List.mem_append.2 (.inl (List.mem_append.2 (.inl (List.mem_append.2 (.inr hz))))))
  have nb0:b ∉ f13:=fun h=>HBF.out (hm0 b h)
  have LP0_0:=Lib.hid hp13; have FR0_0:=Lib.hid (fun (z:Nat) (hz:z ∈ f13)=>HFF.out z (hm0 z hz)); clear hp13
  have hl0:(0:Int)<=(x[j].1.1.2.length:Nat):=Int.natCast_nonneg _
  have hm1:∀ z ∈ f11,z ∈ ((([]++f13)++f11)++((([]++f17)++f15)++((([]++f21)++f19)++((([]++f25)++f23)++((([]++f29)++f27)++(([]++f33)++f31)))))):=fun z hz=>(List.mem_append.2 (.inl (List.mem_append.2 (.inr hz))))
  have nb1:b ∉ f11:=fun h=>HBF.out (hm1 b h)
  have LP1_0:=Lib.hid hp11; have FR1_0:=Lib.hid (fun (z:Nat) (hz:z ∈ f11)=>HFF.out z (hm1 z hz)); clear hp11
  have hl1:(0:Int)<=(x[j].1.2.length:Nat):=Int.natCast_nonneg _
  have hm2:∀ z ∈ f17,z ∈ ((([]++f13)++f11)++((([]++f17)++f15)++((([]++f21)++f19)++((([]++f25)++f23)++((([]++f29)++f27)++(([]++f33)++f31)))))):=fun z hz=>(List.mem_append.2 (.inr (List.mem_append.2 (.inl (List.mem_append.2 (.inl (List.mem_append.2 (.inr hz))))))))
  have nb2:b ∉ f17:=fun h=>HBF.out (hm2 b h)
  have LP2_0:=Lib.hid hp17; have FR2_0:=Lib.hid (fun (z:Nat) (hz:z ∈ f17)=>HFF.out z (hm2 z hz)); clear hp17
  have hl2:(0:Int)<=(x[j].2.1.1.2.length:Nat):=Int.natCast_nonneg _
  have hm3:∀ z ∈ f15,z ∈ ((([]++f13)++f11)++((([]++f17)++f15)++((([]++f21)++f19)++((([]++f25)++f23)++((([]++f29)++f27)++(([]++f33)++f31)))))):=fun z hz=>(List.mem_append.2 (.inr (List.mem_append.2 (.inl (List.mem_append.2 (.inr hz))))))
  have nb3:b ∉ f15:=fun h=>HBF.out (hm3 b h)
  have LP3_0:=Lib.hid hp15; have FR3_0:=Lib.hid (fun (z:Nat) (hz:z ∈ f15)=>HFF.out z (hm3 z hz)); clear hp15
  have hl3:(0:Int)<=(x[j].2.1.2.length:Nat):=Int.natCast_nonneg _
  have hm4:∀ z ∈ f21,z ∈ ((([]++f13)++f11)++((([]++f17)++f15)++((([]++f21)++f19)++((([]++f25)++f23)++((([]++f29)++f27)++(([]++f33)++f31)))))):=fun z hz=>(List.mem_append.2 (.inr (List.mem_append.2 (.inr (List.mem_append.2 (.inl (List.mem_append.2 (.inl (List.mem_append.2 (.inr hz))))))))))
  have nb4:b ∉ f21:=fun h=>HBF.out (hm4 b h)
  have LP4_0:=Lib.hid hp21; have FR4_0:=Lib.hid (fun (z:Nat) (hz:z ∈ f21)=>HFF.out z (hm4 z hz)); clear hp21
  have hl4:(0:Int)<=(x[j].2.2.1.1.2.length:Nat):=Int.natCast_nonneg _
  have hm5:∀ z ∈ f19,z ∈ ((([]++f13)++f11)++((([]++f17)++f15)++((([]++f21)++f19)++((([]++f25)++f23)++((([]++f29)++f27)++(([]++f33)++f31)))))):=fun z hz=>(List.mem_append.2 (.inr (List.mem_append.2 (.inr (List.mem_append.2 (.inl (List.mem_append.2 (.inr hz))))))))
  have nb5:b ∉ f19:=fun h=>HBF.out (hm5 b h)
  have LP5_0:=Lib.hid hp19; have FR5_0:=Lib.hid (fun (z:Nat) (hz:z ∈ f19)=>HFF.out z (hm5 z hz)); clear hp19
  have hl5:(0:Int)<=(x[j].2.2.1.2.length:Nat):=Int.natCast_nonneg _
  have hm6:∀ z ∈ f25,z ∈ ((([]++f13)++f11)++((([]++f17)++f15)++((([]++f21)++f19)++((([]++f25)++f23)++((([]++f29)++f27)++(([]++f33)++f31)))))):=fun z hz=>(List.mem_append.2 (.inr (List.mem_append.2 (.inr (List.mem_append.2 (.inr (List.mem_append.2 (.inl (List.mem_append.2 (.inl (List.mem_append.2 (.inr hz))))))))))))
  have nb6:b ∉ f25:=fun h=>HBF.out (hm6 b h)
  have LP6_0:=Lib.hid hp25; have FR6_0:=Lib.hid (fun (z:Nat) (hz:z ∈ f25)=>HFF.out z (hm6 z hz)); clear hp25
  have hl6:(0:Int)<=(x[j].2.2.2.1.1.2.length:Nat):=Int.natCast_nonneg _
  have hm7:∀ z ∈ f23,z ∈ ((([]++f13)++f11)++((([]++f17)++f15)++((([]++f21)++f19)++((([]++f25)++f23)++((([]++f29)++f27)++(([]++f33)++f31)))))):=fun z hz=>(List.mem_append.2 (.inr (List.mem_append.2 (.inr (List.mem_append.2 (.inr (List.mem_append.2 (.inl (List.mem_append.2 (.inr hz))))))))))
  have nb7:b ∉ f23:=fun h=>HBF.out (hm7 b h)
  have LP7_0:=Lib.hid hp23; have FR7_0:=Lib.hid (fun (z:Nat) (hz:z ∈ f23)=>HFF.out z (hm7 z hz)); clear hp23
  have hl7:(0:Int)<=(x[j].2.2.2.1.2.length:Nat):=Int.natCast_nonneg _
  have hm8:∀ z ∈ f29,z ∈ ((([]++f13)++f11)++((([]++f17)++f15)++((([]++f21)++f19)++((([]++f25)++f23)++((([]++f29)++f27)++(([]++f33)++f31)))))):=fun z hz=>(List.mem_append.2 (.inr (List.mem_append.2 (.inr (List.mem_append.2 (.inr (List.mem_append.2 (.inr (List.mem_append.2 (.inl (List.mem_append.2 (.inl (List.mem_append.2 (.inr hz))))))))))))))
  have nb8:b ∉ f29:=fun h=>HBF.out (hm8 b h)
  have LP8_0:=Lib.hid hp29; have FR8_0:=Lib.hid (fun (z:Nat) (hz:z ∈ f29)=>HFF.out z (hm8 z hz)); clear hp29
  have hl8:(0:Int)<=(x[j].2.2.2.2.1.1.2.length:Nat):=Int.natCast_nonneg _
  have hm9:∀ z ∈ f27,z ∈ ((([]++f13)++f11)++((([]++f17)++f15)++((([]++f21)++f19)++((([]++f25)++f23)++((([]++f29)++f27)++(([]++f33)++f31)))))):=fun z hz=>(List.mem_append.2 (.inr (List.mem_append.2 (.inr (List.mem_append.2 (.inr (List.mem_append.2 (.inr (List.mem_append.2 (.inl (List.mem_append.2 (.inr hz))))))))))))
  have nb9:b ∉ f27:=fun h=>HBF.out (hm9 b h)
  have LP9_0:=Lib.hid hp27; have FR9_0:=Lib.hid (fun (z:Nat) (hz:z ∈ f27)=>HFF.out z (hm9 z hz)); clear hp27
  have hl9:(0:Int)<=(x[j].2.2.2.2.1.2.length:Nat):=Int.natCast_nonneg _
  have hm10:∀ z ∈ f33,z ∈ ((([]++f13)++f11)++((([]++f17)++f15)++((([]++f21)++f19)++((([]++f25)++f23)++((([]++f29)++f27)++(([]++f33)++f31)))))):=fun z hz=>(List.mem_append.2 (.inr (List.mem_append.2 (.inr (List.mem_append.2 (.inr (List.mem_append.2 (.inr (List.mem_append.2 (.inr (List.mem_append.2 (.inl (List.mem_append.2 (.inr hz))))))))))))))
  have nb10:b ∉ f33:=fun h=>HBF.out (hm10 b h)
  have LP10_0:=Lib.hid hp33; have FR10_0:=Lib.hid (fun (z:Nat) (hz:z ∈ f33)=>HFF.out z (hm10 z hz)); clear hp33
  have hl10:(0:Int)<=(x[j].2.2.2.2.2.1.2.length:Nat):=Int.natCast_nonneg _
  have hm11:∀ z ∈ f31,z ∈ ((([]++f13)++f11)++((([]++f17)++f15)++((([]++f21)++f19)++((([]++f25)++f23)++((([]++f29)++f27)++(([]++f33)++f31)))))):=fun z hz=>(List.mem_append.2 (.inr (List.mem_append.2 (.inr (List.mem_append.2 (.inr (List.mem_append.2 (.inr (List.mem_append.2 (.inr (List.mem_append.2 (.inr hz))))))))))))
  have nb11:b ∉ f31:=fun h=>HBF.out (hm11 b h)
  have LP11_0:=Lib.hid hp31; have FR11_0:=Lib.hid (fun (z:Nat) (hz:z ∈ f31)=>HFF.out z (hm11 z hz)); clear hp31
  have hl11:(0:Int)<=(x[j].2.2.2.2.2.2.length:Nat):=Int.natCast_nonneg _
  have hqe:=hq1; simp only [ecCell,ecRat,ecBigInt] at hqe
  have hbl0:b < wr.heap.size:=hfr.lt
  have g0:wr.cell? ⟨b,off+j * 18,none⟩=some (Value.bool x[j].1.1.1):=hcs 0 _ rfl
  have g1:wr.cell? ⟨b,off+j * 18+1,none⟩=some c1:=hcs 1 _ rfl
  have g2:wr.cell? ⟨b,off+j * 18+2,none⟩=some c2:=hcs 2 _ rfl
  have g3:wr.cell? ⟨b,off+j * 18+3,none⟩=some (Value.bool x[j].2.1.1.1):=hcs 3 _ rfl
  have g4:wr.cell? ⟨b,off+j * 18+4,none⟩=some c4:=hcs 4 _ rfl
  have g5:wr.cell? ⟨b,off+j * 18+5,none⟩=some c5:=hcs 5 _ rfl
  have g6:wr.cell? ⟨b,off+j * 18+6,none⟩=some (Value.bool x[j].2.2.1.1.1):=hcs 6 _ rfl
  have g7:wr.cell? ⟨b,off+j * 18+7,none⟩=some c7:=hcs 7 _ rfl
  have g8:wr.cell? ⟨b,off+j * 18+8,none⟩=some c8:=hcs 8 _ rfl
  have g9:wr.cell? ⟨b,off+j * 18+9,none⟩=some (Value.bool x[j].2.2.2.1.1.1):=hcs 9 _ rfl
  have g10:wr.cell? ⟨b,off+j * 18+10,none⟩=some c10:=hcs 10 _ rfl
  have g11:wr.cell? ⟨b,off+j * 18+11,none⟩=some c11:=hcs 11 _ rfl
  have g12:wr.cell? ⟨b,off+j * 18+12,none⟩=some (Value.bool x[j].2.2.2.2.1.1.1):=hcs 12 _ rfl
  have g13:wr.cell? ⟨b,off+j * 18+13,none⟩=some c13:=hcs 13 _ rfl
  have g14:wr.cell? ⟨b,off+j * 18+14,none⟩=some c14:=hcs 14 _ rfl
  have g15:wr.cell? ⟨b,off+j * 18+15,none⟩=some (Value.bool x[j].2.2.2.2.2.1.1):=hcs 15 _ rfl
  have g16:wr.cell? ⟨b,off+j * 18+16,none⟩=some c16:=hcs 16 _ rfl
  have g17:wr.cell? ⟨b,off+j * 18+17,none⟩=some c17:=hcs 17 _ rfl
  have hfz:=hfr.frozen
  have HT0:=Lib.hid (Upto.refl (b :: ((([]++f13)++f11)++((([]++f17)++f15)++((([]++f21)++f19)++((([]++f25)++f23)++((([]++f29)++f27)++(([]++f33)++f31))))))) wr)
  clear hcs hfr
  go_wp2_with fail
  have hB0:Upto [b] wr _:=((Upto.refl [b] wr).setCell (p:=⟨b,off+j * 18,none⟩) List.mem_cons_self (Value.bool ((q) % 3 == 0)))
  refine (markIntS_any _ _ _ f13 _ (Rp.upto LP0_0.out hB0 (fun z hz hb=>nb0 (List.mem_singleton.1 hb ▸ hz))) nd0 (fun z hz=>((FR0_0.out z hz).setCell _ _)) (by omega) (by omega)).mono ?_
  rintro e w1 ⟨v,rfl,rfl,hmm,hu1⟩
  have hbl1:b < w1.heap.size:=Nat.lt_of_lt_of_le (by simpa using hbl0) hu1.size
  have hcb1:=hu1.cell (b:=b) (by simpa using hbl0) nb0
  have hfb1:=hu1.frozen (b:=b) (by simpa using hbl0) nb0
  have HT1:=Lib.hid ((HT0.out.setCell (p:=⟨b,off+j * 18,none⟩) List.mem_cons_self (Value.bool ((q) % 3 == 0))).trans (hu1.mono fun z hz=>List.mem_cons_of_mem _ (hm0 z hz))); clear HT0
  have HO1:=Lib.hid (fun (o:Nat) (ho:o < off+j * 18\/off+j * 18+18<=o)=>(hcb1 o).trans ((setCell_out (Value.bool ((q) % 3 == 0)) (by omega)).trans rfl));
  have LP0_1:=Lib.hid hmm; clear hmm LP0_0
  have LP1_1:=Lib.hid (Rp.upto (Rp.upto LP1_0.out hB0 (fun z hz hb=>nb1 (List.mem_singleton.1 hb ▸ hz))) hu1 (fun z hz hy=>dd0 z hy (List.mem_append.2 (.inl hz)))); clear LP1_0
  have FR1_1:=Lib.hid (fun (z:Nat) (hz:z ∈ f11)=>(((FR1_0.out z hz).setCell _ _)).frame (hu1.block z (Free.lt ((FR1_0.out z hz).setCell _ _)) ((fun z hz hy=>dd0 z hy (List.mem_append.2 (.inl hz))) z hz))); clear FR1_0
  have LP2_1:=Lib.hid (Rp.upto (Rp.upto LP2_0.out hB0 (fun z hz hb=>nb2 (List.mem_singleton.1 hb ▸ hz))) hu1 (fun z hz hy=>dd0 z hy (List.mem_append.2 (.inr (List.mem_append.2 (.inl hz)))))); clear LP2_0
  have FR2_1:=Lib.hid (fun (z:Nat) (hz:z ∈ f17)=>(((FR2_0.out z hz).setCell _ _)).frame (hu1.block z (Free.lt ((FR2_0.out z hz).setCell _ _)) ((fun z hz hy=>dd0 z hy (List.mem_append.2 (.inr (List.mem_append.2 (.inl hz))))) z hz))); clear FR2_0
  have LP3_1:=Lib.hid (Rp.upto (Rp.upto LP3_0.out hB0 (fun z hz hb=>nb3 (List.mem_singleton.1 hb ▸ hz))) hu1 (fun z hz hy=>dd0 z hy (List.mem_append.2 (.inr (List.mem_append.2 (.inr (List.mem_append.2 (.inl hz)))))))); clear LP3_0
  have FR3_1:=Lib.hid (fun (z:Nat) (hz:z ∈ f15)=>(((FR3_0.out z hz).setCell _ _)).frame (hu1.block z (Free.lt ((FR3_0.out z hz).setCell _ _)) ((fun z hz hy=>dd0 z hy (List.mem_append.2 (.inr (List.mem_append.2 (.inr (List.mem_append.2 (.inl hz))))))) z hz))); clear FR3_0
  have LP4_1:=Lib.hid (Rp.upto (Rp.upto LP4_0.out hB0 (fun z hz hb=>nb4 (List.mem_singleton.1 hb ▸ hz))) hu1 (fun z hz hy=>dd0 z hy (List.mem_append.2 (.inr (List.mem_append.2 (.inr (List.mem_append.2 (.inr (List.mem_append.2 (.inl hz)))))))))); clear LP4_0
  have FR4_1:=Lib.hid (fun (z:Nat) (hz:z ∈ f21)=>(((FR4_0.out z hz).setCell _ _)).frame (hu1.block z (Free.lt ((FR4_0.out z hz).setCell _ _)) ((fun z hz hy=>dd0 z hy (List.mem_append.2 (.inr (List.mem_append.2 (.inr (List.mem_append.2 (.inr (List.mem_append.2 (.inl hz))))))))) z hz))); clear FR4_0
  have LP5_1:=Lib.hid (Rp.upto (Rp.upto LP5_0.out hB0 (fun z hz hb=>nb5 (List.mem_singleton.1 hb ▸ hz))) hu1 (fun z hz hy=>dd0 z hy (List.mem_append.2 (.inr (List.mem_append.2 (.inr (List.mem_append.2 (.inr (List.mem_append.2 (.inr (List.mem_append.2 (.inl hz)))))))))))); clear LP5_0
  have FR5_1:=Lib.hid (fun (z:Nat) (hz:z ∈ f19)=>(((FR5_0.out z hz).setCell _ _)).frame (hu1.block z (Free.lt ((FR5_0.out z hz).setCell _ _)) ((fun z hz hy=>dd0 z hy (List.mem_append.2 (.inr (List.mem_append.2 (.inr (List.mem_append.2 (.inr (List.mem_append.2 (.inr (List.mem_append.2 (.inl hz))))))))))) z hz))); clear FR5_0
  have LP6_1:=Lib.hid (Rp.upto (Rp.upto LP6_0.out hB0 (fun z hz hb=>nb6 (List.mem_singleton.1 hb ▸ hz))) hu1 (fun z hz hy=>dd0 z hy (List.mem_append.2 (.inr (List.mem_append.2 (.inr (List.mem_append.2 (.inr (List.mem_append.2 (.inr (List.mem_append.2 (.inr (List.mem_append.2 (.inl hz)))))))))))))); clear LP6_0
  have FR6_1:=Lib.hid (fun (z:Nat) (hz:z ∈ f25)=>(((FR6_0.out z hz).setCell _ _)).frame (hu1.block z (Free.lt ((FR6_0.out z hz).setCell _ _)) ((fun z hz hy=>dd0 z hy (List.mem_append.2 (.inr (List.mem_append.2 (.inr (List.mem_append.2 (.inr (List.mem_append.2 (.inr (List.mem_append.2 (.inr (List.mem_append.2 (.inl hz))))))))))))) z hz))); clear FR6_0
  have LP7_1:=Lib.hid (Rp.upto (Rp.upto LP7_0.out hB0 (fun z hz hb=>nb7 (List.mem_singleton.1 hb ▸ hz))) hu1 (fun z hz hy=>dd0 z hy (List.mem_append.2 (.inr (List.mem_append.2 (.inr (List.mem_append.2 (.inr (List.mem_append.2 (.inr (List.mem_append.2 (.inr (List.mem_append.2 (.inr (List.mem_append.2 (.inl hz)))))))))))))))); clear LP7_0
  have FR7_1:=Lib.hid (fun (z:Nat) (hz:z ∈ f23)=>(((FR7_0.out z hz).setCell _ _)).frame (hu1.block z (Free.lt ((FR7_0.out z hz).setCell _ _)) ((fun z hz hy=>dd0 z hy (List.mem_append.2 (.inr (List.mem_append.2 (.inr (List.mem_append.2 (.inr (List.mem_append.2 (.inr (List.mem_append.2 (.inr (List.mem_append.2 (.inr (List.mem_append.2 (.inl hz))))))))))))))) z hz))); clear FR7_0
  have LP8_1:=Lib.hid (Rp.upto (Rp.upto LP8_0.out hB0 (fun z hz hb=>nb8 (List.mem_singleton.1 hb ▸ hz))) hu1 (fun z hz hy=>dd0 z hy (List.mem_append.2 (.inr (List.mem_append.2 (.inr (List.mem_append.2 (.inr (List.mem_append.2 (.inr (List.mem_append.2 (.inr (List.mem_append.2 (.inr (List.mem_append.2 (.inr (List.mem_append.2 (.inl hz)))))))))))))))))); clear LP8_0
  have FR8_1:=Lib.hid (fun (z:Nat) (hz:z ∈ f29)=>(((FR8_0.out z hz).setCell _ _)).frame (hu1.block z (Free.lt ((FR8_0.out z hz).setCell _ _)) ((fun z hz hy=>dd0 z hy (List.mem_append.2 (.inr (List.mem_append.2 (.inr (List.mem_append.2 (.inr (List.mem_append.2 (.inr (List.mem_append.2 (.inr (List.mem_append.2 (.inr (List.mem_append.2 (.inr (List.mem_append.2 (.inl hz))))))))))))))))) z hz))); clear FR8_0
  have LP9_1:=Lib.hid (Rp.upto (Rp.upto LP9_0.out hB0 (fun z hz hb=>nb9 (List.mem_singleton.1 hb ▸ hz))) hu1 (fun z hz hy=>dd0 z hy (List.mem_append.2 (.inr (List.mem_append.2 (.inr (List.mem_append.2 (.inr (List.mem_append.2 (.inr (List.mem_append.2 (.inr (List.mem_append.2 (.inr (List.mem_append.2 (.inr (List.mem_append.2 (.inr (List.mem_append.2 (.inl hz)))))))))))))))))))); clear LP9_0
  have FR9_1:=Lib.hid (fun (z:Nat) (hz:z ∈ f27)=>(((FR9_0.out z hz).setCell _ _)).frame (hu1.block z (Free.lt ((FR9_0.out z hz).setCell _ _)) ((fun z hz hy=>dd0 z hy (List.mem_append.2 (.inr (List.mem_append.2 (.inr (List.mem_append.2 (.inr (List.mem_append.2 (.inr (List.mem_append.2 (.inr (List.mem_append.2 (.inr (List.mem_append.2 (.inr (List.mem_append.2 (.inr (List.mem_append.2 (.inl hz))))))))))))))))))) z hz))); clear FR9_0
  have LP10_1:=Lib.hid (Rp.upto (Rp.upto LP10_0.out hB0 (fun z hz hb=>nb10 (List.mem_singleton.1 hb ▸ hz))) hu1 (fun z hz hy=>dd0 z hy (List.mem_append.2 (.inr (List.mem_append.2 (.inr (List.mem_append.2 (.inr (List.mem_append.2 (.inr (List.mem_append.2 (.inr (List.mem_append.2 (.inr (List.mem_append.2 (.inr (List.mem_append.2 (.inr (List.mem_append.2 (.inr (List.mem_append.2 (.inl hz)))))))))))))))))))))); clear LP10_0
  have FR10_1:=Lib.hid (fun (z:Nat) (hz:z ∈ f33)=>(((FR10_0.out z hz).setCell _ _)).frame (hu1.block z (Free.lt ((FR10_0.out z hz).setCell _ _)) ((fun z hz hy=>dd0 z hy (List.mem_append.2 (.inr (List.mem_append.2 (.inr (List.mem_append.2 (.inr (List.mem_append.2 (.inr (List.mem_append.2 (.inr (List.mem_append.2 (.inr (List.mem_append.2 (.inr (List.mem_append.2 (.inr (List.mem_append.2 (.inr (List.mem_append.2 (.inl hz))))))))))))))))))))) z hz))); clear FR10_0
  have LP11_1:=Lib.hid (Rp.upto (Rp.upto LP11_0.out hB0 (fun z hz hb=>nb11 (List.mem_singleton.1 hb ▸ hz))) hu1 (fun z hz hy=>dd0 z hy (List.mem_append.2 (.inr (List.mem_append.2 (.inr (List.mem_append.2 (.inr (List.mem_append.2 (.inr (List.mem_append.2 (.inr (List.mem_append.2 (.inr (List.mem_append.2 (.inr (List.mem_append.2 (.inr (List.mem_append.2 (.inr (List.mem_append.2 (.inr (hz))))))))))))))))))))))); clear LP11_0
  have FR11_1:=Lib.hid (fun (z:Nat) (hz:z ∈ f31)=>(((FR11_0.out z hz).setCell _ _)).frame (hu1.block z (Free.lt ((FR11_0.out z hz).setCell _ _)) ((fun z hz hy=>dd0 z hy (List.mem_append.2 (.inr (List.mem_append.2 (.inr (List.mem_append.2 (.inr (List.mem_append.2 (.inr (List.mem_append.2 (.inr (List.mem_append.2 (.inr (List.mem_append.2 (.inr (List.mem_append.2 (.inr (List.mem_append.2 (.inr (List.mem_append.2 (.inr (hz)))))))))))))))))))))) z hz))); clear FR11_0
  clear hu1 hB0 FR0_0
  go_wp2_with fail
  have hB1:Upto [b] w1 _:=(Upto.refl [b] w1)
  refine (markIntS_any _ _ _ f11 _ (Rp.upto LP1_1.out hB1 (fun z hz hb=>nb1 (List.mem_singleton.1 hb ▸ hz))) nd1 (fun z hz=>(FR1_1.out z hz)) (by omega) (by omega)).mono ?_
  rintro e w2 ⟨v,rfl,rfl,hmm,hu2⟩
  have hbl2:b < w2.heap.size:=Nat.lt_of_lt_of_le (by simpa using hbl1) hu2.size
  have hcb2:=hu2.cell (b:=b) (by simpa using hbl1) nb1
  have hfb2:=hu2.frozen (b:=b) (by simpa using hbl1) nb1
  have HT2:=Lib.hid (HT1.out.trans (hu2.mono fun z hz=>List.mem_cons_of_mem _ (hm1 z hz))); clear HT1
  have HO2:=Lib.hid (fun (o:Nat) (ho:o < off+j * 18\/off+j * 18+18<=o)=>(hcb2 o).trans (HO1.out o ho)); clear HO1
  have LP0_2:=Lib.hid (Rp.upto (Rp.upto LP0_1.out hB1 (fun z hz hb=>nb0 (List.mem_singleton.1 hb ▸ hz))) hu2 (fun z hy hz=>dd0 z hy (List.mem_append.2 (.inl hz)))); clear LP0_1
  have LP1_2:=Lib.hid hmm; clear hmm LP1_1
  have LP2_2:=Lib.hid (Rp.upto (Rp.upto LP2_1.out hB1 (fun z hz hb=>nb2 (List.mem_singleton.1 hb ▸ hz))) hu2 (fun z hz hy=>dd1 z hy (List.mem_append.2 (.inl hz)))); clear LP2_1
  have FR2_2:=Lib.hid (fun (z:Nat) (hz:z ∈ f17)=>((FR2_1.out z hz)).frame (hu2.block z (Free.lt (FR2_1.out z hz)) ((fun z hz hy=>dd1 z hy (List.mem_append.2 (.inl hz))) z hz))); clear FR2_1
  have LP3_2:=Lib.hid (Rp.upto (Rp.upto LP3_1.out hB1 (fun z hz hb=>nb3 (List.mem_singleton.1 hb ▸ hz))) hu2 (fun z hz hy=>dd1 z hy (List.mem_append.2 (.inr (List.mem_append.2 (.inl hz)))))); clear LP3_1
  have FR3_2:=Lib.hid (fun (z:Nat) (hz:z ∈ f15)=>((FR3_1.out z hz)).frame (hu2.block z (Free.lt (FR3_1.out z hz)) ((fun z hz hy=>dd1 z hy (List.mem_append.2 (.inr (List.mem_append.2 (.inl hz))))) z hz))); clear FR3_1
  have LP4_2:=Lib.hid (Rp.upto (Rp.upto LP4_1.out hB1 (fun z hz hb=>nb4 (List.mem_singleton.1 hb ▸ hz))) hu2 (fun z hz hy=>dd1 z hy (List.mem_append.2 (.inr (List.mem_append.2 (.inr (List.mem_append.2 (.inl hz)))))))); clear LP4_1
  have FR4_2:=Lib.hid (fun (z:Nat) (hz:z ∈ f21)=>((FR4_1.out z hz)).frame (hu2.block z (Free.lt (FR4_1.out z hz)) ((fun z hz hy=>dd1 z hy (List.mem_append.2 (.inr (List.mem_append.2 (.inr (List.mem_append.2 (.inl hz))))))) z hz))); clear FR4_1
  have LP5_2:=Lib.hid (Rp.upto (Rp.upto LP5_1.out hB1 (fun z hz hb=>nb5 (List.mem_singleton.1 hb ▸ hz))) hu2 (fun z hz hy=>dd1 z hy (List.mem_append.2 (.inr (List.mem_append.2 (.inr (List.mem_append.2 (.inr (List.mem_append.2 (.inl hz)))))))))); clear LP5_1
  have FR5_2:=Lib.hid (fun (z:Nat) (hz:z ∈ f19)=>((FR5_1.out z hz)).frame (hu2.block z (Free.lt (FR5_1.out z hz)) ((fun z hz hy=>dd1 z hy (List.mem_append.2 (.inr (List.mem_append.2 (.inr (List.mem_append.2 (.inr (List.mem_append.2 (.inl hz))))))))) z hz))); clear FR5_1
  have LP6_2:=Lib.hid (Rp.upto (Rp.upto LP6_1.out hB1 (fun z hz hb=>nb6 (List.mem_singleton.1 hb ▸ hz))) hu2 (fun z hz hy=>dd1 z hy (List.mem_append.2 (.inr (List.mem_append.2 (.inr (List.mem_append.2 (.inr (List.mem_append.2 (.inr (List.mem_append.2 (.inl hz)))))))))))); clear LP6_1
  have FR6_2:=Lib.hid (fun (z:Nat) (hz:z ∈ f25)=>((FR6_1.out z hz)).frame (hu2.block z (Free.lt (FR6_1.out z hz)) ((fun z hz hy=>dd1 z hy (List.mem_append.2 (.inr (List.mem_append.2 (.inr (List.mem_append.2 (.inr (List.mem_append.2 (.inr (List.mem_append.2 (.inl hz))))))))))) z hz))); clear FR6_1
  have LP7_2:=Lib.hid (Rp.upto (Rp.upto LP7_1.out hB1 (fun z hz hb=>nb7 (List.mem_singleton.1 hb ▸ hz))) hu2 (fun z hz hy=>dd1 z hy (List.mem_append.2 (.inr (List.mem_append.2 (.inr (List.mem_append.2 (.inr (List.mem_append.2 (.inr (List.mem_append.2 (.inr (List.mem_append.2 (.inl hz)))))))))))))); clear LP7_1
  have FR7_2:=Lib.hid (fun (z:Nat) (hz:z ∈ f23)=>((FR7_1.out z hz)).frame (hu2.block z (Free.lt (FR7_1.out z hz)) ((fun z hz hy=>dd1 z hy (List.mem_append.2 (.inr (List.mem_append.2 (.inr (List.mem_append.2 (.inr (List.mem_append.2 (.inr (List.mem_append.2 (.inr (List.mem_append.2 (.inl hz))))))))))))) z hz))); clear FR7_1
  have LP8_2:=Lib.hid (Rp.upto (Rp.upto LP8_1.out hB1 (fun z hz hb=>nb8 (List.mem_singleton.1 hb ▸ hz))) hu2 (fun z hz hy=>dd1 z hy (List.mem_append.2 (.inr (List.mem_append.2 (.inr (List.mem_append.2 (.inr (List.mem_append.2 (.inr (List.mem_append.2 (.inr (List.mem_append.2 (.inr (List.mem_append.2 (.inl hz)))))))))))))))); clear LP8_1
  have FR8_2:=Lib.hid (fun (z:Nat) (hz:z ∈ f29)=>((FR8_1.out z hz)).frame (hu2.block z (Free.lt (FR8_1.out z hz)) ((fun z hz hy=>dd1 z hy (List.mem_append.2 (.inr (List.mem_append.2 (.inr (List.mem_append.2 (.inr (List.mem_append.2 (.inr (List.mem_append.2 (.inr (List.mem_append.2 (.inr (List.mem_append.2 (.inl hz))))))))))))))) z hz))); clear FR8_1
  have LP9_2:=Lib.hid (Rp.upto (Rp.upto LP9_1.out hB1 (fun z hz hb=>nb9 (List.mem_singleton.1 hb ▸ hz))) hu2 (fun z hz hy=>dd1 z hy (List.mem_append.2 (.inr (List.mem_append.2 (.inr (List.mem_append.2 (.inr (List.mem_append.2 (.inr (List.mem_append.2 (.inr (List.mem_append.2 (.inr (List.mem_append.2 (.inr (List.mem_append.2 (.inl hz)))))))))))))))))); clear LP9_1
  have FR9_2:=Lib.hid (fun (z:Nat) (hz:z ∈ f27)=>((FR9_1.out z hz)).frame (hu2.block z (Free.lt (FR9_1.out z hz)) ((fun z hz hy=>dd1 z hy (List.mem_append.2 (.inr (List.mem_append.2 (.inr (List.mem_append.2 (.inr (List.mem_append.2 (.inr (List.mem_append.2 (.inr (List.mem_append.2 (.inr (List.mem_append.2 (.inr (List.mem_append.2 (.inl hz))))))))))))))))) z hz))); clear FR9_1
  have LP10_2:=Lib.hid (Rp.upto (Rp.upto LP10_1.out hB1 (fun z hz hb=>nb10 (List.mem_singleton.1 hb ▸ hz))) hu2 (fun z hz hy=>dd1 z hy (List.mem_append.2 (.inr (List.mem_append.2 (.inr (List.mem_append.2 (.inr (List.mem_append.2 (.inr (List.mem_append.2 (.inr (List.mem_append.2 (.inr (List.mem_append.2 (.inr (List.mem_append.2 (.inr (List.mem_append.2 (.inl hz)))))))))))))))))))); clear LP10_1
  have FR10_2:=Lib.hid (fun (z:Nat) (hz:z ∈ f33)=>((FR10_1.out z hz)).frame (hu2.block z (Free.lt (FR10_1.out z hz)) ((fun z hz hy=>dd1 z hy (List.mem_append.2 (.inr (List.mem_append.2 (.inr (List.mem_append.2 (.inr (List.mem_append.2 (.inr (List.mem_append.2 (.inr (List.mem_append.2 (.inr (List.mem_append.2 (.inr (List.mem_append.2 (.inr (List.mem_append.2 (.inl hz))))))))))))))))))) z hz))); clear FR10_1
  have LP11_2:=Lib.hid (Rp.upto (Rp.upto LP11_1.out hB1 (fun z hz hb=>nb11 (List.mem_singleton.1 hb ▸ hz))) hu2 (fun z hz hy=>dd1 z hy (List.mem_append.2 (.inr (List.mem_append.2 (.inr (List.mem_append.2 (.inr (List.mem_append.2 (.inr (List.mem_append.2 (.inr (List.mem_append.2 (.inr (List.mem_append.2 (.inr (List.mem_append.2 (.inr (List.mem_append.2 (.inr (hz))))))))))))))))))))); clear LP11_1
  have FR11_2:=Lib.hid (fun (z:Nat) (hz:z ∈ f31)=>((FR11_1.out z hz)).frame (hu2.block z (Free.lt (FR11_1.out z hz)) ((fun z hz hy=>dd1 z hy (List.mem_append.2 (.inr (List.mem_append.2 (.inr (List.mem_append.2 (.inr (List.mem_append.2 (.inr (List.mem_append.2 (.inr (List.mem_append.2 (.inr (List.mem_append.2 (.inr (List.mem_append.2 (.inr (List.mem_append.2 (.inr (hz)))))))))))))))))))) z hz))); clear FR11_1
  clear hu2 hB1 FR1_1
  go_wp2_with fail
  have hB2:Upto [b] w2 _:=((Upto.refl [b] w2).setCell (p:=⟨b,off+j * 18+3,none⟩) List.mem_cons_self (Value.bool ((q+1+(x[j].1.1.2.length:Nat)+(x[j].1.2.length:Nat)) % 3 == 0)))
  refine (markIntS_any _ _ _ f17 _ (Rp.upto LP2_2.out hB2 (fun z hz hb=>nb2 (List.mem_singleton.1 hb ▸ hz))) nd2 (fun z hz=>((FR2_2.out z hz).setCell _ _)) (by omega) (by omega)).mono ?_
  rintro e w3 ⟨v,rfl,rfl,hmm,hu3⟩
  have hbl3:b < w3.heap.size:=Nat.lt_of_lt_of_le (by simpa using hbl2) hu3.size
  have hcb3:=hu3.cell (b:=b) (by simpa using hbl2) nb2
  have hfb3:=hu3.frozen (b:=b) (by simpa using hbl2) nb2
  have HT3:=Lib.hid ((HT2.out.setCell (p:=⟨b,off+j * 18+3,none⟩) List.mem_cons_self (Value.bool ((q+1+(x[j].1.1.2.length:Nat)+(x[j].1.2.length:Nat)) % 3 == 0))).trans (hu3.mono fun z hz=>List.mem_cons_of_mem _ (hm2 z hz))); clear HT2
  have HO3:=Lib.hid (fun (o:Nat) (ho:o < off+j * 18\/off+j * 18+18<=o)=>(hcb3 o).trans ((setCell_out (Value.bool ((q+1+(x[j].1.1.2.length:Nat)+(x[j].1.2.length:Nat)) % 3 == 0)) (by omega)).trans (HO2.out o ho))); clear HO2
  have LP0_3:=Lib.hid (Rp.upto (Rp.upto LP0_2.out hB2 (fun z hz hb=>nb0 (List.mem_singleton.1 hb ▸ hz))) hu3 (fun z hy hz=>dd0 z hy (List.mem_append.2 (.inr (List.mem_append.2 (.inl hz)))))); clear LP0_2
  have LP1_3:=Lib.hid (Rp.upto (Rp.upto LP1_2.out hB2 (fun z hz hb=>nb1 (List.mem_singleton.1 hb ▸ hz))) hu3 (fun z hy hz=>dd1 z hy (List.mem_append.2 (.inl hz)))); clear LP1_2
  have LP2_3:=Lib.hid hmm; clear hmm LP2_2
  have LP3_3:=Lib.hid (Rp.upto (Rp.upto LP3_2.out hB2 (fun z hz hb=>nb3 (List.mem_singleton.1 hb ▸ hz))) hu3 (fun z hz hy=>dd2 z hy (List.mem_append.2 (.inl hz)))); clear LP3_2
  have FR3_3:=Lib.hid (fun (z:Nat) (hz:z ∈ f15)=>(((FR3_2.out z hz).setCell _ _)).frame (hu3.block z (Free.lt ((FR3_2.out z hz).setCell _ _)) ((fun z hz hy=>dd2 z hy (List.mem_append.2 (.inl hz))) z hz))); clear FR3_2
  have LP4_3:=Lib.hid (Rp.upto (Rp.upto LP4_2.out hB2 (fun z hz hb=>nb4 (List.mem_singleton.1 hb ▸ hz))) hu3 (fun z hz hy=>dd2 z hy (List.mem_append.2 (.inr (List.mem_append.2 (.inl hz)))))); clear LP4_2
  have FR4_3:=Lib.hid (fun (z:Nat) (hz:z ∈ f21)=>(((FR4_2.out z hz).setCell _ _)).frame (hu3.block z (Free.lt ((FR4_2.out z hz).setCell _ _)) ((fun z hz hy=>dd2 z hy (List.mem_append.2 (.inr (List.mem_append.2 (.inl hz))))) z hz))); clear FR4_2
  have LP5_3:=Lib.hid (Rp.upto (Rp.upto LP5_2.out hB2 (fun z hz hb=>nb5 (List.mem_singleton.1 hb ▸ hz))) hu3 (fun z hz hy=>dd2 z hy (List.mem_append.2 (.inr (List.mem_append.2 (.inr (List.mem_append.2 (.inl hz)))))))); clear LP5_2
  have FR5_3:=Lib.hid (fun (z:Nat) (hz:z ∈ f19)=>(((FR5_2.out z hz).setCell _ _)).frame (hu3.block z (Free.lt ((FR5_2.out z hz).setCell _ _)) ((fun z hz hy=>dd2 z hy (List.mem_append.2 (.inr (List.mem_append.2 (.inr (List.mem_append.2 (.inl hz))))))) z hz))); clear FR5_2
  have LP6_3:=Lib.hid (Rp.upto (Rp.upto LP6_2.out hB2 (fun z hz hb=>nb6 (List.mem_singleton.1 hb ▸ hz))) hu3 (fun z hz hy=>dd2 z hy (List.mem_append.2 (.inr (List.mem_append.2 (.inr (List.mem_append.2 (.inr (List.mem_append.2 (.inl hz)))))))))); clear LP6_2
  have FR6_3:=Lib.hid (fun (z:Nat) (hz:z ∈ f25)=>(((FR6_2.out z hz).setCell _ _)).frame (hu3.block z (Free.lt ((FR6_2.out z hz).setCell _ _)) ((fun z hz hy=>dd2 z hy (List.mem_append.2 (.inr (List.mem_append.2 (.inr (List.mem_append.2 (.inr (List.mem_append.2 (.inl hz))))))))) z hz))); clear FR6_2
  have LP7_3:=Lib.hid (Rp.upto (Rp.upto LP7_2.out hB2 (fun z hz hb=>nb7 (List.mem_singleton.1 hb ▸ hz))) hu3 (fun z hz hy=>dd2 z hy (List.mem_append.2 (.inr (List.mem_append.2 (.inr (List.mem_append.2 (.inr (List.mem_append.2 (.inr (List.mem_append.2 (.inl hz)))))))))))); clear LP7_2
  have FR7_3:=Lib.hid (fun (z:Nat) (hz:z ∈ f23)=>(((FR7_2.out z hz).setCell _ _)).frame (hu3.block z (Free.lt ((FR7_2.out z hz).setCell _ _)) ((fun z hz hy=>dd2 z hy (List.mem_append.2 (.inr (List.mem_append.2 (.inr (List.mem_append.2 (.inr (List.mem_append.2 (.inr (List.mem_append.2 (.inl hz))))))))))) z hz))); clear FR7_2
  have LP8_3:=Lib.hid (Rp.upto (Rp.upto LP8_2.out hB2 (fun z hz hb=>nb8 (List.mem_singleton.1 hb ▸ hz))) hu3 (fun z hz hy=>dd2 z hy (List.mem_append.2 (.inr (List.mem_append.2 (.inr (List.mem_append.2 (.inr (List.mem_append.2 (.inr (List.mem_append.2 (.inr (List.mem_append.2 (.inl hz)))))))))))))); clear LP8_2
  have FR8_3:=Lib.hid (fun (z:Nat) (hz:z ∈ f29)=>(((FR8_2.out z hz).setCell _ _)).frame (hu3.block z (Free.lt ((FR8_2.out z hz).setCell _ _)) ((fun z hz hy=>dd2 z hy (List.mem_append.2 (.inr (List.mem_append.2 (.inr (List.mem_append.2 (.inr (List.mem_append.2 (.inr (List.mem_append.2 (.inr (List.mem_append.2 (.inl hz))))))))))))) z hz))); clear FR8_2
  have LP9_3:=Lib.hid (Rp.upto (Rp.upto LP9_2.out hB2 (fun z hz hb=>nb9 (List.mem_singleton.1 hb ▸ hz))) hu3 (fun z hz hy=>dd2 z hy (List.mem_append.2 (.inr (List.mem_append.2 (.inr (List.mem_append.2 (.inr (List.mem_append.2 (.inr (List.mem_append.2 (.inr (List.mem_append.2 (.inr (List.mem_append.2 (.inl hz)))))))))))))))); clear LP9_2
  have FR9_3:=Lib.hid (fun (z:Nat) (hz:z ∈ f27)=>(((FR9_2.out z hz).setCell _ _)).frame (hu3.block z (Free.lt ((FR9_2.out z hz).setCell _ _)) ((fun z hz hy=>dd2 z hy (List.mem_append.2 (.inr (List.mem_append.2 (.inr (List.mem_append.2 (.inr (List.mem_append.2 (.inr (List.mem_append.2 (.inr (List.mem_append.2 (.inr (List.mem_append.2 (.inl hz))))))))))))))) z hz))); clear FR9_2
  have LP10_3:=Lib.hid (Rp.upto (Rp.upto LP10_2.out hB2 (fun z hz hb=>nb10 (List.mem_singleton.1 hb ▸ hz))) hu3 (fun z hz hy=>dd2 z hy (List.mem_append.2 (.inr (List.mem_append.2 (.inr (List.mem_append.2 (.inr (List.mem_append.2 (.inr (List.mem_append.2 (.inr (List.mem_append.2 (.inr (List.mem_append.2 (.inr (List.mem_append.2 (.inl hz)))))))))))))))))); clear LP10_2
  have FR10_3:=Lib.hid (fun (z:Nat) (hz:z ∈ f33)=>(((FR10_2.out z hz).setCell _ _)).frame (hu3.block z (Free.lt ((FR10_2.out z hz).setCell _ _)) ((fun z hz hy=>dd2 z hy (List.mem_append.2 (.inr (List.mem_append.2 (.inr (List.mem_append.2 (.inr (List.mem_append.2 (.inr (List.mem_append.2 (.inr (List.mem_append.2 (.inr (List.mem_append.2 (.inr (List.mem_append.2 (.inl hz))))))))))))))))) z hz))); clear FR10_2
  have LP11_3:=Lib.hid (Rp.upto (Rp.upto LP11_2.out hB2 (fun z hz hb=>nb11 (List.mem_singleton.1 hb ▸ hz))) hu3 (fun z hz hy=>dd2 z hy (List.mem_append.2 (.inr (List.mem_append.2 (.inr (List.mem_append.2 (.inr (List.mem_append.2 (.inr (List.mem_append.2 (.inr (List.mem_append.2 (.inr (List.mem_append.2 (.inr (List.mem_append.2 (.inr (hz))))))))))))))))))); clear LP11_2
  have FR11_3:=Lib.hid (fun (z:Nat) (hz:z ∈ f31)=>(((FR11_2.out z hz).setCell _ _)).frame (hu3.block z (Free.lt ((FR11_2.out z hz).setCell _ _)) ((fun z hz hy=>dd2 z hy (List.mem_append.2 (.inr (List.mem_append.2 (.inr (List.mem_append.2 (.inr (List.mem_append.2 (.inr (List.mem_append.2 (.inr (List.mem_append.2 (.inr (List.mem_append.2 (.inr (List.mem_append.2 (.inr (hz)))))))))))))))))) z hz))); clear FR11_2
  clear hu3 hB2 FR2_2
  go_wp2_with fail
  have hB3:Upto [b] w3 _:=(Upto.refl [b] w3)
  refine (markIntS_any _ _ _ f15 _ (Rp.upto LP3_3.out hB3 (fun z hz hb=>nb3 (List.mem_singleton.1 hb ▸ hz))) nd3 (fun z hz=>(FR3_3.out z hz)) (by omega) (by omega)).mono ?_
  rintro e w4 ⟨v,rfl,rfl,hmm,hu4⟩
  have hbl4:b < w4.heap.size:=Nat.lt_of_lt_of_le (by simpa using hbl3) hu4.size
  have hcb4:=hu4.cell (b:=b) (by simpa using hbl3) nb3
  have hfb4:=hu4.frozen (b:=b) (by simpa using hbl3) nb3
  have HT4:=Lib.hid (HT3.out.trans (hu4.mono fun z hz=>List.mem_cons_of_mem _ (hm3 z hz))); clear HT3
  have HO4:=Lib.hid (fun (o:Nat) (ho:o < off+j * 18\/off+j * 18+18<=o)=>(hcb4 o).trans (HO3.out o ho)); clear HO3
  have LP0_4:=Lib.hid (Rp.upto (Rp.upto LP0_3.out hB3 (fun z hz hb=>nb0 (List.mem_singleton.1 hb ▸ hz))) hu4 (fun z hy hz=>dd0 z hy (List.mem_append.2 (.inr (List.mem_append.2 (.inr (List.mem_append.2 (.inl hz)))))))); clear LP0_3
  have LP1_4:=Lib.hid (Rp.upto (Rp.upto LP1_3.out hB3 (fun z hz hb=>nb1 (List.mem_singleton.1 hb ▸ hz))) hu4 (fun z hy hz=>dd1 z hy (List.mem_append.2 (.inr (List.mem_append.2 (.inl hz)))))); clear LP1_3
  have LP2_4:=Lib.hid (Rp.upto (Rp.upto LP2_3.out hB3 (fun z hz hb=>nb2 (List.mem_singleton.1 hb ▸ hz))) hu4 (fun z hy hz=>dd2 z hy (List.mem_append.2 (.inl hz)))); clear LP2_3
  have LP3_4:=Lib.hid hmm; clear hmm LP3_3
  have LP4_4:=Lib.hid (Rp.upto (Rp.upto LP4_3.out hB3 (fun z hz hb=>nb4 (List.mem_singleton.1 hb ▸ hz))) hu4 (fun z hz hy=>dd3 z hy (List.mem_append.2 (.inl hz)))); clear LP4_3
  have FR4_4:=Lib.hid (fun (z:Nat) (hz:z ∈ f21)=>((FR4_3.out z hz)).frame (hu4.block z (Free.lt (FR4_3.out z hz)) ((fun z hz hy=>dd3 z hy (List.mem_append.2 (.inl hz))) z hz))); clear FR4_3
  have LP5_4:=Lib.hid (Rp.upto (Rp.upto LP5_3.out hB3 (fun z hz hb=>nb5 (List.mem_singleton.1 hb ▸ hz))) hu4 (fun z hz hy=>dd3 z hy (List.mem_append.2 (.inr (List.mem_append.2 (.inl hz)))))); clear LP5_3
  have FR5_4:=Lib.hid (fun (z:Nat) (hz:z ∈ f19)=>((FR5_3.out z hz)).frame (hu4.block z (Free.lt (FR5_3.out z hz)) ((fun z hz hy=>dd3 z hy (List.mem_append.2 (.inr (List.mem_append.2 (.inl hz))))) z hz))); clear FR5_3
  have LP6_4:=Lib.hid (Rp.upto (Rp.upto LP6_3.out hB3 (fun z hz hb=>nb6 (List.mem_singleton.1 hb ▸ hz))) hu4 (fun z hz hy=>dd3 z hy (List.mem_append.2 (.inr (List.mem_append.2 (.inr (List.mem_append.2 (.inl hz)))))))); clear LP6_3
  have FR6_4:=Lib.hid (fun (z:Nat) (hz:z ∈ f25)=>((FR6_3.out z hz)).frame (hu4.block z (Free.lt (FR6_3.out z hz)) ((fun z hz hy=>dd3 z hy (List.mem_append.2 (.inr (List.mem_append.2 (.inr (List.mem_append.2 (.inl hz))))))) z hz))); clear FR6_3
  have LP7_4:=Lib.hid (Rp.upto (Rp.upto LP7_3.out hB3 (fun z hz hb=>nb7 (List.mem_singleton.1 hb ▸ hz))) hu4 (fun z hz hy=>dd3 z hy (List.mem_append.2 (.inr (List.mem_append.2 (.inr (List.mem_append.2 (.inr (List.mem_append.2 (.inl hz)))))))))); clear LP7_3
  have FR7_4:=Lib.hid (fun (z:Nat) (hz:z ∈ f23)=>((FR7_3.out z hz)).frame (hu4.block z (Free.lt (FR7_3.out z hz)) ((fun z hz hy=>dd3 z hy (List.mem_append.2 (.inr (List.mem_append.2 (.inr (List.mem_append.2 (.inr (List.mem_append.2 (.inl hz))))))))) z hz))); clear FR7_3
  have LP8_4:=Lib.hid (Rp.upto (Rp.upto LP8_3.out hB3 (fun z hz hb=>nb8 (List.mem_singleton.1 hb ▸ hz))) hu4 (fun z hz hy=>dd3 z hy (List.mem_append.2 (.inr (List.mem_append.2 (.inr (List.mem_append.2 (.inr (List.mem_append.2 (.inr (List.mem_append.2 (.inl hz)))))))))))); clear LP8_3
  have FR8_4:=Lib.hid (fun (z:Nat) (hz:z ∈ f29)=>((FR8_3.out z hz)).frame (hu4.block z (Free.lt (FR8_3.out z hz)) ((fun z hz hy=>dd3 z hy (List.mem_append.2 (.inr (List.mem_append.2 (.inr (List.mem_append.2 (.inr (List.mem_append.2 (.inr (List.mem_append.2 (.inl hz))))))))))) z hz))); clear FR8_3
  have LP9_4:=Lib.hid (Rp.upto (Rp.upto LP9_3.out hB3 (fun z hz hb=>nb9 (List.mem_singleton.1 hb ▸ hz))) hu4 (fun z hz hy=>dd3 z hy (List.mem_append.2 (.inr (List.mem_append.2 (.inr (List.mem_append.2 (.inr (List.mem_append.2 (.inr (List.mem_append.2 (.inr (List.mem_append.2 (.inl hz)))))))))))))); clear LP9_3
  have FR9_4:=Lib.hid (fun (z:Nat) (hz:z ∈ f27)=>((FR9_3.out z hz)).frame (hu4.block z (Free.lt (FR9_3.out z hz)) ((fun z hz hy=>dd3 z hy (List.mem_append.2 (.inr (List.mem_append.2 (.inr (List.mem_append.2 (.inr (List.mem_append.2 (.inr (List.mem_append.2 (.inr (List.mem_append.2 (.inl hz))))))))))))) z hz))); clear FR9_3
  have LP10_4:=Lib.hid (Rp.upto (Rp.upto LP10_3.out hB3 (fun z hz hb=>nb10 (List.mem_singleton.1 hb ▸ hz))) hu4 (fun z hz hy=>dd3 z hy (List.mem_append.2 (.inr (List.mem_append.2 (.inr (List.mem_append.2 (.inr (List.mem_append.2 (.inr (List.mem_append.2 (.inr (List.mem_append.2 (.inr (List.mem_append.2 (.inl hz)))))))))))))))); clear LP10_3
  have FR10_4:=Lib.hid (fun (z:Nat) (hz:z ∈ f33)=>((FR10_3.out z hz)).frame (hu4.block z (Free.lt (FR10_3.out z hz)) ((fun z hz hy=>dd3 z hy (List.mem_append.2 (.inr (List.mem_append.2 (.inr (List.mem_append.2 (.inr (List.mem_append.2 (.inr (List.mem_append.2 (.inr (List.mem_append.2 (.inr (List.mem_append.2 (.inl hz))))))))))))))) z hz))); clear FR10_3
  have LP11_4:=Lib.hid (Rp.upto (Rp.upto LP11_3.out hB3 (fun z hz hb=>nb11 (List.mem_singleton.1 hb ▸ hz))) hu4 (fun z hz hy=>dd3 z hy (List.mem_append.2 (.inr (List.mem_append.2 (.inr (List.mem_append.2 (.inr (List.mem_append.2 (.inr (List.mem_append.2 (.inr (List.mem_append.2 (.inr (List.mem_append.2 (.inr (hz))))))))))))))))); clear LP11_3
  have FR11_4:=Lib.hid (fun (z:Nat) (hz:z ∈ f31)=>((FR11_3.out z hz)).frame (hu4.block z (Free.lt (FR11_3.out z hz)) ((fun z hz hy=>dd3 z hy (List.mem_append.2 (.inr (List.mem_append.2 (.inr (List.mem_append.2 (.inr (List.mem_append.2 (.inr (List.mem_append.2 (.inr (List.mem_append.2 (.inr (List.mem_append.2 (.inr (hz)))))))))))))))) z hz))); clear FR11_3
  clear hu4 hB3 FR3_3
  go_wp2_with fail
  have hB4:Upto [b] w4 _:=((Upto.refl [b] w4).setCell (p:=⟨b,off+j * 18+6,none⟩) List.mem_cons_self (Value.bool ((q+1+(x[j].1.1.2.length:Nat)+(x[j].1.2.length:Nat)+1+(x[j].2.1.1.2.length:Nat)+(x[j].2.1.2.length:Nat)) % 3 == 0)))
  refine (markIntS_any _ _ _ f21 _ (Rp.upto LP4_4.out hB4 (fun z hz hb=>nb4 (List.mem_singleton.1 hb ▸ hz))) nd4 (fun z hz=>((FR4_4.out z hz).setCell _ _)) (by omega) (by omega)).mono ?_
  rintro e w5 ⟨v,rfl,rfl,hmm,hu5⟩
  have hbl5:b < w5.heap.size:=Nat.lt_of_lt_of_le (by simpa using hbl4) hu5.size
  have hcb5:=hu5.cell (b:=b) (by simpa using hbl4) nb4
  have hfb5:=hu5.frozen (b:=b) (by simpa using hbl4) nb4
  have HT5:=Lib.hid ((HT4.out.setCell (p:=⟨b,off+j * 18+6,none⟩) List.mem_cons_self (Value.bool ((q+1+(x[j].1.1.2.length:Nat)+(x[j].1.2.length:Nat)+1+(x[j].2.1.1.2.length:Nat)+(x[j].2.1.2.length:Nat)) % 3 == 0))).trans (hu5.mono fun z hz=>List.mem_cons_of_mem _ (hm4 z hz))); clear HT4
  have HO5:=Lib.hid (fun (o:Nat) (ho:o < off+j * 18\/off+j * 18+18<=o)=>(hcb5 o).trans ((setCell_out (Value.bool ((q+1+(x[j].1.1.2.length:Nat)+(x[j].1.2.length:Nat)+1+(x[j].2.1.1.2.length:Nat)+(x[j].2.1.2.length:Nat)) % 3 == 0)) (by omega)).trans (HO4.out o ho))); clear HO4
  have LP0_5:=Lib.hid (Rp.upto (Rp.upto LP0_4.out hB4 (fun z hz hb=>nb0 (List.mem_singleton.1 hb ▸ hz))) hu5 (fun z hy hz=>dd0 z hy (List.mem_append.2 (.inr (List.mem_append.2 (.inr (List.mem_append.2 (.inr (List.mem_append.2 (.inl hz)))))))))); clear LP0_4
  have LP1_5:=Lib.hid (Rp.upto (Rp.upto LP1_4.out hB4 (fun z hz hb=>nb1 (List.mem_singleton.1 hb ▸ hz))) hu5 (fun z hy hz=>dd1 z hy (List.mem_append.2 (.inr (List.mem_append.2 (.inr (List.mem_append.2 (.inl hz)))))))); clear LP1_4
  have LP2_5:=Lib.hid (Rp.upto (Rp.upto LP2_4.out hB4 (fun z hz hb=>nb2 (List.mem_singleton.1 hb ▸ hz))) hu5 (fun z hy hz=>dd2 z hy (List.mem_append.2 (.inr (List.mem_append.2 (.inl hz)))))); clear LP2_4
  have LP3_5:=Lib.hid (Rp.upto (Rp.upto LP3_4.out hB4 (fun z hz hb=>nb3 (List.mem_singleton.1 hb ▸ hz))) hu5 (fun z hy hz=>dd3 z hy (List.mem_append.2 (.inl hz)))); clear LP3_4
  have LP4_5:=Lib.hid hmm; clear hmm LP4_4
  have LP5_5:=Lib.hid (Rp.upto (Rp.upto LP5_4.out hB4 (fun z hz hb=>nb5 (List.mem_singleton.1 hb ▸ hz))) hu5 (fun z hz hy=>dd4 z hy (List.mem_append.2 (.inl hz)))); clear LP5_4
  have FR5_5:=Lib.hid (fun (z:Nat) (hz:z ∈ f19)=>(((FR5_4.out z hz).setCell _ _)).frame (hu5.block z (Free.lt ((FR5_4.out z hz).setCell _ _)) ((fun z hz hy=>dd4 z hy (List.mem_append.2 (.inl hz))) z hz))); clear FR5_4
  have LP6_5:=Lib.hid (Rp.upto (Rp.upto LP6_4.out hB4 (fun z hz hb=>nb6 (List.mem_singleton.1 hb ▸ hz))) hu5 (fun z hz hy=>dd4 z hy (List.mem_append.2 (.inr (List.mem_append.2 (.inl hz)))))); clear LP6_4
  have FR6_5:=Lib.hid (fun (z:Nat) (hz:z ∈ f25)=>(((FR6_4.out z hz).setCell _ _)).frame (hu5.block z (Free.lt ((FR6_4.out z hz).setCell _ _)) ((fun z hz hy=>dd4 z hy (List.mem_append.2 (.inr (List.mem_append.2 (.inl hz))))) z hz))); clear FR6_4
  have LP7_5:=Lib.hid (Rp.upto (Rp.upto LP7_4.out hB4 (fun z hz hb=>nb7 (List.mem_singleton.1 hb ▸ hz))) hu5 (fun z hz hy=>dd4 z hy (List.mem_append.2 (.inr (List.mem_append.2 (.inr (List.mem_append.2 (.inl hz)))))))); clear LP7_4
  have FR7_5:=Lib.hid (fun (z:Nat) (hz:z ∈ f23)=>(((FR7_4.out z hz).setCell _ _)).frame (hu5.block z (Free.lt ((FR7_4.out z hz).setCell _ _)) ((fun z hz hy=>dd4 z hy (List.mem_append.2 (.inr (List.mem_append.2 (.inr (List.mem_append.2 (.inl hz))))))) z hz))); clear FR7_4
  have LP8_5:=Lib.hid (Rp.upto (Rp.upto LP8_4.out hB4 (fun z hz hb=>nb8 (List.mem_singleton.1 hb ▸ hz))) hu5 (fun z hz hy=>dd4 z hy (List.mem_append.2 (.inr (List.mem_append.2 (.inr (List.mem_append.2 (.inr (List.mem_append.2 (.inl hz)))))))))); clear LP8_4
  have FR8_5:=Lib.hid (fun (z:Nat) (hz:z ∈ f29)=>(((FR8_4.out z hz).setCell _ _)).frame (hu5.block z (Free.lt ((FR8_4.out z hz).setCell _ _)) ((fun z hz hy=>dd4 z hy (List.mem_append.2 (.inr (List.mem_append.2 (.inr (List.mem_append.2 (.inr (List.mem_append.2 (.inl hz))))))))) z hz))); clear FR8_4
  have LP9_5:=Lib.hid (Rp.upto (Rp.upto LP9_4.out hB4 (fun z hz hb=>nb9 (List.mem_singleton.1 hb ▸ hz))) hu5 (fun z hz hy=>dd4 z hy (List.mem_append.2 (.inr (List.mem_append.2 (.inr (List.mem_append.2 (.inr (List.mem_append.2 (.inr (List.mem_append.2 (.inl hz)))))))))))); clear LP9_4
  have FR9_5:=Lib.hid (fun (z:Nat) (hz:z ∈ f27)=>(((FR9_4.out z hz).setCell _ _)).frame (hu5.block z (Free.lt ((FR9_4.out z hz).setCell _ _)) ((fun z hz hy=>dd4 z hy (List.mem_append.2 (.inr (List.mem_append.2 (.inr (List.mem_append.2 (.inr (List.mem_append.2 (.inr (List.mem_append.2 (.inl hz))))))))))) z hz))); clear FR9_4
  have LP10_5:=Lib.hid (Rp.upto (Rp.upto LP10_4.out hB4 (fun z hz hb=>nb10 (List.mem_singleton.1 hb ▸ hz))) hu5 (fun z hz hy=>dd4 z hy (List.mem_append.2 (.inr (List.mem_append.2 (.inr (List.mem_append.2 (.inr (List.mem_append.2 (.inr (List.mem_append.2 (.inr (List.mem_append.2 (.inl hz)))))))))))))); clear LP10_4
  have FR10_5:=Lib.hid (fun (z:Nat) (hz:z ∈ f33)=>(((FR10_4.out z hz).setCell _ _)).frame (hu5.block z (Free.lt ((FR10_4.out z hz).setCell _ _)) ((fun z hz hy=>dd4 z hy (List.mem_append.2 (.inr (List.mem_append.2 (.inr (List.mem_append.2 (.inr (List.mem_append.2 (.inr (List.mem_append.2 (.inr (List.mem_append.2 (.inl hz))))))))))))) z hz))); clear FR10_4
  have LP11_5:=Lib.hid (Rp.upto (Rp.upto LP11_4.out hB4 (fun z hz hb=>nb11 (List.mem_singleton.1 hb ▸ hz))) hu5 (fun z hz hy=>dd4 z hy (List.mem_append.2 (.inr (List.mem_append.2 (.inr (List.mem_append.2 (.inr (List.mem_append.2 (.inr (List.mem_append.2 (.inr (List.mem_append.2 (.inr (hz))))))))))))))); clear LP11_4
  have FR11_5:=Lib.hid (fun (z:Nat) (hz:z ∈ f31)=>(((FR11_4.out z hz).setCell _ _)).frame (hu5.block z (Free.lt ((FR11_4.out z hz).setCell _ _)) ((fun z hz hy=>dd4 z hy (List.mem_append.2 (.inr (List.mem_append.2 (.inr (List.mem_append.2 (.inr (List.mem_append.2 (.inr (List.mem_append.2 (.inr (List.mem_append.2 (.inr (hz)))))))))))))) z hz))); clear FR11_4
  clear hu5 hB4 FR4_4
  go_wp2_with fail
  have hB5:Upto [b] w5 _:=(Upto.refl [b] w5)
  refine (markIntS_any _ _ _ f19 _ (Rp.upto LP5_5.out hB5 (fun z hz hb=>nb5 (List.mem_singleton.1 hb ▸ hz))) nd5 (fun z hz=>(FR5_5.out z hz)) (by omega) (by omega)).mono ?_
  rintro e w6 ⟨v,rfl,rfl,hmm,hu6⟩
  have hbl6:b < w6.heap.size:=Nat.lt_of_lt_of_le (by simpa using hbl5) hu6.size
  have hcb6:=hu6.cell (b:=b) (by simpa using hbl5) nb5
  have hfb6:=hu6.frozen (b:=b) (by simpa using hbl5) nb5
  have HT6:=Lib.hid (HT5.out.trans (hu6.mono fun z hz=>List.mem_cons_of_mem _ (hm5 z hz))); clear HT5
  have HO6:=Lib.hid (fun (o:Nat) (ho:o < off+j * 18\/off+j * 18+18<=o)=>(hcb6 o).trans (HO5.out o ho)); clear HO5
  have LP0_6:=Lib.hid (Rp.upto (Rp.upto LP0_5.out hB5 (fun z hz hb=>nb0 (List.mem_singleton.1 hb ▸ hz))) hu6 (fun z hy hz=>dd0 z hy (List.mem_append.2 (.inr (List.mem_append.2 (.inr (List.mem_append.2 (.inr (List.mem_append.2 (.inr (List.mem_append.2 (.inl hz)))))))))))); clear LP0_5
  have LP1_6:=Lib.hid (Rp.upto (Rp.upto LP1_5.out hB5 (fun z hz hb=>nb1 (List.mem_singleton.1 hb ▸ hz))) hu6 (fun z hy hz=>dd1 z hy (List.mem_append.2 (.inr (List.mem_append.2 (.inr (List.mem_append.2 (.inr (List.mem_append.2 (.inl hz)))))))))); clear LP1_5
  have LP2_6:=Lib.hid (Rp.upto (Rp.upto LP2_5.out hB5 (fun z hz hb=>nb2 (List.mem_singleton.1 hb ▸ hz))) hu6 (fun z hy hz=>dd2 z hy (List.mem_append.2 (.inr (List.mem_append.2 (.inr (List.mem_append.2 (.inl hz)))))))); clear LP2_5
  have LP3_6:=Lib.hid (Rp.upto (Rp.upto LP3_5.out hB5 (fun z hz hb=>nb3 (List.mem_singleton.1 hb ▸ hz))) hu6 (fun z hy hz=>dd3 z hy (List.mem_append.2 (.inr (List.mem_append.2 (.inl hz)))))); clear LP3_5
  have LP4_6:=Lib.hid (Rp.upto (Rp.upto LP4_5.out hB5 (fun z hz hb=>nb4 (List.mem_singleton.1 hb ▸ hz))) hu6 (fun z hy hz=>dd4 z hy (List.mem_append.2 (.inl hz)))); clear LP4_5
  have LP5_6:=Lib.hid hmm; clear hmm LP5_5
  have LP6_6:=Lib.hid (Rp.upto (Rp.upto LP6_5.out hB5 (fun z hz hb=>nb6 (List.mem_singleton.1 hb ▸ hz))) hu6 (fun z hz hy=>dd5 z hy (List.mem_append.2 (.inl hz)))); clear LP6_5
  have FR6_6:=Lib.hid (fun (z:Nat) (hz:z ∈ f25)=>((FR6_5.out z hz)).frame (hu6.block z (Free.lt (FR6_5.out z hz)) ((fun z hz hy=>dd5 z hy (List.mem_append.2 (.inl hz))) z hz))); clear FR6_5
  have LP7_6:=Lib.hid (Rp.upto (Rp.upto LP7_5.out hB5 (fun z hz hb=>nb7 (List.mem_singleton.1 hb ▸ hz))) hu6 (fun z hz hy=>dd5 z hy (List.mem_append.2 (.inr (List.mem_append.2 (.inl hz)))))); clear LP7_5
  have FR7_6:=Lib.hid (fun (z:Nat) (hz:z ∈ f23)=>((FR7_5.out z hz)).frame (hu6.block z (Free.lt (FR7_5.out z hz)) ((fun z hz hy=>dd5 z hy (List.mem_append.2 (.inr (List.mem_append.2 (.inl hz))))) z hz))); clear FR7_5
  have LP8_6:=Lib.hid (Rp.upto (Rp.upto LP8_5.out hB5 (fun z hz hb=>nb8 (List.mem_singleton.1 hb ▸ hz))) hu6 (fun z hz hy=>dd5 z hy (List.mem_append.2 (.inr (List.mem_append.2 (.inr (List.mem_append.2 (.inl hz)))))))); clear LP8_5
  have FR8_6:=Lib.hid (fun (z:Nat) (hz:z ∈ f29)=>((FR8_5.out z hz)).frame (hu6.block z (Free.lt (FR8_5.out z hz)) ((fun z hz hy=>dd5 z hy (List.mem_append.2 (.inr (List.mem_append.2 (.inr (List.mem_append.2 (.inl hz))))))) z hz))); clear FR8_5
  have LP9_6:=Lib.hid (Rp.upto (Rp.upto LP9_5.out hB5 (fun z hz hb=>nb9 (List.mem_singleton.1 hb ▸ hz))) hu6 (fun z hz hy=>dd5 z hy (List.mem_append.2 (.inr (List.mem_append.2 (.inr (List.mem_append.2 (.inr (List.mem_append.2 (.inl hz)))))))))); clear LP9_5
  have FR9_6:=Lib.hid (fun (z:Nat) (hz:z ∈ f27)=>((FR9_5.out z hz)).frame (hu6.block z (Free.lt (FR9_5.out z hz)) ((fun z hz hy=>dd5 z hy (List.mem_append.2 (.inr (List.mem_append.2 (.inr (List.mem_append.2 (.inr (List.mem_append.2 (.inl hz))))))))) z hz))); clear FR9_5
  have LP10_6:=Lib.hid (Rp.upto (Rp.upto LP10_5.out hB5 (fun z hz hb=>nb10 (List.mem_singleton.1 hb ▸ hz))) hu6 (fun z hz hy=>dd5 z hy (List.mem_append.2 (.inr (List.mem_append.2 (.inr (List.mem_append.2 (.inr (List.mem_append.2 (.inr (List.mem_append.2 (.inl hz)))))))))))); clear LP10_5
  have FR10_6:=Lib.hid (fun (z:Nat) (hz:z ∈ f33)=>((FR10_5.out z hz)).frame (hu6.block z (Free.lt (FR10_5.out z hz)) ((fun z hz hy=>dd5 z hy (List.mem_append.2 (.inr (List.mem_append.2 (.inr (List.mem_append.2 (.inr (List.mem_append.2 (.inr (List.mem_append.2 (.inl hz))))))))))) z hz))); clear FR10_5
  have LP11_6:=Lib.hid (Rp.upto (Rp.upto LP11_5.out hB5 (fun z hz hb=>nb11 (List.mem_singleton.1 hb ▸ hz))) hu6 (fun z hz hy=>dd5 z hy (List.mem_append.2 (.inr (List.mem_append.2 (.inr (List.mem_append.2 (.inr (List.mem_append.2 (.inr (List.mem_append.2 (.inr (hz))))))))))))); clear LP11_5
  have FR11_6:=Lib.hid (fun (z:Nat) (hz:z ∈ f31)=>((FR11_5.out z hz)).frame (hu6.block z (Free.lt (FR11_5.out z hz)) ((fun z hz hy=>dd5 z hy (List.mem_append.2 (.inr (List.mem_append.2 (.inr (List.mem_append.2 (.inr (List.mem_append.2 (.inr (List.mem_append.2 (.inr (hz)))))))))))) z hz))); clear FR11_5
  clear hu6 hB5 FR5_5
  go_wp2_with fail
  have hB6:Upto [b] w6 _:=((Upto.refl [b] w6).setCell (p:=⟨b,off+j * 18+9,none⟩) List.mem_cons_self (Value.bool ((q+1+(x[j].1.1.2.length:Nat)+(x[j].1.2.length:Nat)+1+(x[j].2.1.1.2.length:Nat)+(x[j].2.1.2.length:Nat)+1+(x[j].2.2.1.1.2.length:Nat)+(x[j].2.2.1.2.length:Nat)) % 3 == 0)))
  refine (markIntS_any _ _ _ f25 _ (Rp.upto LP6_6.out hB6 (fun z hz hb=>nb6 (List.mem_singleton.1 hb ▸ hz))) nd6 (fun z hz=>((FR6_6.out z hz).setCell _ _)) (by omega) (by omega)).mono ?_
  rintro e w7 ⟨v,rfl,rfl,hmm,hu7⟩
  have hbl7:b < w7.heap.size:=Nat.lt_of_lt_of_le (by simpa using hbl6) hu7.size
  have hcb7:=hu7.cell (b:=b) (by simpa using hbl6) nb6
  have hfb7:=hu7.frozen (b:=b) (by simpa using hbl6) nb6
  have HT7:=Lib.hid ((HT6.out.setCell (p:=⟨b,off+j * 18+9,none⟩) List.mem_cons_self (Value.bool ((q+1+(x[j].1.1.2.length:Nat)+(x[j].1.2.length:Nat)+1+(x[j].2.1.1.2.length:Nat)+(x[j].2.1.2.length:Nat)+1+(x[j].2.2.1.1.2.length:Nat)+(x[j].2.2.1.2.length:Nat)) % 3 == 0))).trans (hu7.mono fun z hz=>List.mem_cons_of_mem _ (hm6 z hz))); clear HT6
  have HO7:=Lib.hid (fun (o:Nat) (ho:o < off+j * 18\/off+j * 18+18<=o)=>(hcb7 o).trans ((setCell_out (Value.bool ((q+1+(x[j].1.1.2.length:Nat)+(x[j].1.2.length:Nat)+1+(x[j].2.1.1.2.length:Nat)+(x[j].2.1.2.length:Nat)+1+(x[j].2.2.1.1.2.length:Nat)+(x[j].2.2.1.2.length:Nat)) % 3 == 0)) (by omega)).trans (HO6.out o ho))); clear HO6
  have LP0_7:=Lib.hid (Rp.upto (Rp.upto LP0_6.out hB6 (fun z hz hb=>nb0 (List.mem_singleton.1 hb ▸ hz))) hu7 (fun z hy hz=>dd0 z hy (List.mem_append.2 (.inr (List.mem_append.2 (.inr (List.mem_append.2 (.inr (List.mem_append.2 (.inr (List.mem_append.2 (.inr (List.mem_append.2 (.inl hz)))))))))))))); clear LP0_6
  have LP1_7:=Lib.hid (Rp.upto (Rp.upto LP1_6.out hB6 (fun z hz hb=>nb1 (List.mem_singleton.1 hb ▸ hz))) hu7 (fun z hy hz=>dd1 z hy (List.mem_append.2 (.inr (List.mem_append.2 (.inr (List.mem_append.2 (.inr (List.mem_append.2 (.inr (List.mem_append.2 (.inl hz)))))))))))); clear LP1_6
  have LP2_7:=Lib.hid (Rp.upto (Rp.upto LP2_6.out hB6 (fun z hz hb=>nb2 (List.mem_singleton.1 hb ▸ hz))) hu7 (fun z hy hz=>dd2 z hy (List.mem_append.2 (.inr (List.mem_append.2 (.inr (List.mem_append.2 (.inr (List.mem_append.2 (.inl hz)))))))))); clear LP2_6
  have LP3_7:=Lib.hid (Rp.upto (Rp.upto LP3_6.out hB6 (fun z hz hb=>nb3 (List.mem_singleton.1 hb ▸ hz))) hu7 (fun z hy hz=>dd3 z hy (List.mem_append.2 (.inr (List.mem_append.2 (.inr (List.mem_append.2 (.inl hz)))))))); clear LP3_6
  have LP4_7:=Lib.hid (Rp.upto (Rp.upto LP4_6.out hB6 (fun z hz hb=>nb4 (List.mem_singleton.1 hb ▸ hz))) hu7 (fun z hy hz=>dd4 z hy (List.mem_append.2 (.inr (List.mem_append.2 (.inl hz)))))); clear LP4_6
  have LP5_7:=Lib.hid (Rp.upto (Rp.upto LP5_6.out hB6 (fun z hz hb=>nb5 (List.mem_singleton.1 hb ▸ hz))) hu7 (fun z hy hz=>dd5 z hy (List.mem_append.2 (.inl hz)))); clear LP5_6
  have LP6_7:=Lib.hid hmm; clear hmm LP6_6
  have LP7_7:=Lib.hid (Rp.upto (Rp.upto LP7_6.out hB6 (fun z hz hb=>nb7 (List.mem_singleton.1 hb ▸ hz))) hu7 (fun z hz hy=>dd6 z hy (List.mem_append.2 (.inl hz)))); clear LP7_6
  have FR7_7:=Lib.hid (fun (z:Nat) (hz:z ∈ f23)=>(((FR7_6.out z hz).setCell _ _)).frame (hu7.block z (Free.lt ((FR7_6.out z hz).setCell _ _)) ((fun z hz hy=>dd6 z hy (List.mem_append.2 (.inl hz))) z hz))); clear FR7_6
  have LP8_7:=Lib.hid (Rp.upto (Rp.upto LP8_6.out hB6 (fun z hz hb=>nb8 (List.mem_singleton.1 hb ▸ hz))) hu7 (fun z hz hy=>dd6 z hy (List.mem_append.2 (.inr (List.mem_append.2 (.inl hz)))))); clear LP8_6
  have FR8_7:=Lib.hid (fun (z:Nat) (hz:z ∈ f29)=>(((FR8_6.out z hz).setCell _ _)).frame (hu7.block z (Free.lt ((FR8_6.out z hz).setCell _ _)) ((fun z hz hy=>dd6 z hy (List.mem_append.2 (.inr (List.mem_append.2 (.inl hz))))) z hz))); clear FR8_6
  have LP9_7:=Lib.hid (Rp.upto (Rp.upto LP9_6.out hB6 (fun z hz hb=>nb9 (List.mem_singleton.1 hb ▸ hz))) hu7 (fun z hz hy=>dd6 z hy (List.mem_append.2 (.inr (List.mem_append.2 (.inr (List.mem_append.2 (.inl hz)))))))); clear LP9_6
  have FR9_7:=Lib.hid (fun (z:Nat) (hz:z ∈ f27)=>(((FR9_6.out z hz).setCell _ _)).frame (hu7.block z (Free.lt ((FR9_6.out z hz).setCell _ _)) ((fun z hz hy=>dd6 z hy (List.mem_append.2 (.inr (List.mem_append.2 (.inr (List.mem_append.2 (.inl hz))))))) z hz))); clear FR9_6
  have LP10_7:=Lib.hid (Rp.upto (Rp.upto LP10_6.out hB6 (fun z hz hb=>nb10 (List.mem_singleton.1 hb ▸ hz))) hu7 (fun z hz hy=>dd6 z hy (List.mem_append.2 (.inr (List.mem_append.2 (.inr (List.mem_append.2 (.inr (List.mem_append.2 (.inl hz)))))))))); clear LP10_6
  have FR10_7:=Lib.hid (fun (z:Nat) (hz:z ∈ f33)=>(((FR10_6.out z hz).setCell _ _)).frame (hu7.block z (Free.lt ((FR10_6.out z hz).setCell _ _)) ((fun z hz hy=>dd6 z hy (List.mem_append.2 (.inr (List.mem_append.2 (.inr (List.mem_append.2 (.inr (List.mem_append.2 (.inl hz))))))))) z hz))); clear FR10_6
  have LP11_7:=Lib.hid (Rp.upto (Rp.upto LP11_6.out hB6 (fun z hz hb=>nb11 (List.mem_singleton.1 hb ▸ hz))) hu7 (fun z hz hy=>dd6 z hy (List.mem_append.2 (.inr (List.mem_append.2 (.inr (List.mem_append.2 (.inr (List.mem_append.2 (.inr (hz))))))))))); clear LP11_6
  have FR11_7:=Lib.hid (fun (z:Nat) (hz:z ∈ f31)=>(((FR11_6.out z hz).setCell _ _)).frame (hu7.block z (Free.lt ((FR11_6.out z hz).setCell _ _)) ((fun z hz hy=>dd6 z hy (List.mem_append.2 (.inr (List.mem_append.2 (.inr (List.mem_append.2 (.inr (List.mem_append.2 (.inr (hz)))))))))) z hz))); clear FR11_6
  clear hu7 hB6 FR6_6
  go_wp2_with fail
  have hB7:Upto [b] w7 _:=(Upto.refl [b] w7)
  refine (markIntS_any _ _ _ f23 _ (Rp.upto LP7_7.out hB7 (fun z hz hb=>nb7 (List.mem_singleton.1 hb ▸ hz))) nd7 (fun z hz=>(FR7_7.out z hz)) (by omega) (by omega)).mono ?_
  rintro e w8 ⟨v,rfl,rfl,hmm,hu8⟩
  have hbl8:b < w8.heap.size:=Nat.lt_of_lt_of_le (by simpa using hbl7) hu8.size
  have hcb8:=hu8.cell (b:=b) (by simpa using hbl7) nb7
  have hfb8:=hu8.frozen (b:=b) (by simpa using hbl7) nb7
  have HT8:=Lib.hid (HT7.out.trans (hu8.mono fun z hz=>List.mem_cons_of_mem _ (hm7 z hz))); clear HT7
  have HO8:=Lib.hid (fun (o:Nat) (ho:o < off+j * 18\/off+j * 18+18<=o)=>(hcb8 o).trans (HO7.out o ho)); clear HO7
  have LP0_8:=Lib.hid (Rp.upto (Rp.upto LP0_7.out hB7 (fun z hz hb=>nb0 (List.mem_singleton.1 hb ▸ hz))) hu8 (fun z hy hz=>dd0 z hy (List.mem_append.2 (.inr (List.mem_append.2 (.inr (List.mem_append.2 (.inr (List.mem_append.2 (.inr (List.mem_append.2 (.inr (List.mem_append.2 (.inr (List.mem_append.2 (.inl hz)))))))))))))))); clear LP0_7
  have LP1_8:=Lib.hid (Rp.upto (Rp.upto LP1_7.out hB7 (fun z hz hb=>nb1 (List.mem_singleton.1 hb ▸ hz))) hu8 (fun z hy hz=>dd1 z hy (List.mem_append.2 (.inr (List.mem_append.2 (.inr (List.mem_append.2 (.inr (List.mem_append.2 (.inr (List.mem_append.2 (.inr (List.mem_append.2 (.inl hz)))))))))))))); clear LP1_7
  have LP2_8:=Lib.hid (Rp.upto (Rp.upto LP2_7.out hB7 (fun z hz hb=>nb2 (List.mem_singleton.1 hb ▸ hz))) hu8 (fun z hy hz=>dd2 z hy (List.mem_append.2 (.inr (List.mem_append.2 (.inr (List.mem_append.2 (.inr (List.mem_append.2 (.inr (List.mem_append.2 (.inl hz)))))))))))); clear LP2_7
  have LP3_8:=Lib.hid (Rp.upto (Rp.upto LP3_7.out hB7 (fun z hz hb=>nb3 (List.mem_singleton.1 hb ▸ hz))) hu8 (fun z hy hz=>dd3 z hy (List.mem_append.2 (.inr (List.mem_append.2 (.inr (List.mem_append.2 (.inr (List.mem_append.2 (.inl hz)))))))))); clear LP3_7
  have LP4_8:=Lib.hid (Rp.upto (Rp.upto LP4_7.out hB7 (fun z hz hb=>nb4 (List.mem_singleton.1 hb ▸ hz))) hu8 (fun z hy hz=>dd4 z hy (List.mem_append.2 (.inr (List.mem_append.2 (.inr (List.mem_append.2 (.inl hz)))))))); clear LP4_7
  have LP5_8:=Lib.hid (Rp.upto (Rp.upto LP5_7.out hB7 (fun z hz hb=>nb5 (List.mem_singleton.1 hb ▸ hz))) hu8 (fun z hy hz=>dd5 z hy (List.mem_append.2 (.inr (List.mem_append.2 (.inl hz)))))); clear LP5_7
  have LP6_8:=Lib.hid (Rp.upto (Rp.upto LP6_7.out hB7 (fun z hz hb=>nb6 (List.mem_singleton.1 hb ▸ hz))) hu8 (fun z hy hz=>dd6 z hy (List.mem_append.2 (.inl hz)))); clear LP6_7
  have LP7_8:=Lib.hid hmm; clear hmm LP7_7
  have LP8_8:=Lib.hid (Rp.upto (Rp.upto LP8_7.out hB7 (fun z hz hb=>nb8 (List.mem_singleton.1 hb ▸ hz))) hu8 (fun z hz hy=>dd7 z hy (List.mem_append.2 (.inl hz)))); clear LP8_7
  have FR8_8:=Lib.hid (fun (z:Nat) (hz:z ∈ f29)=>((FR8_7.out z hz)).frame (hu8.block z (Free.lt (FR8_7.out z hz)) ((fun z hz hy=>dd7 z hy (List.mem_append.2 (.inl hz))) z hz))); clear FR8_7
  have LP9_8:=Lib.hid (Rp.upto (Rp.upto LP9_7.out hB7 (fun z hz hb=>nb9 (List.mem_singleton.1 hb ▸ hz))) hu8 (fun z hz hy=>dd7 z hy (List.mem_append.2 (.inr (List.mem_append.2 (.inl hz)))))); clear LP9_7
  have FR9_8:=Lib.hid (fun (z:Nat) (hz:z ∈ f27)=>((FR9_7.out z hz)).frame (hu8.block z (Free.lt (FR9_7.out z hz)) ((fun z hz hy=>dd7 z hy (List.mem_append.2 (.inr (List.mem_append.2 (.inl hz))))) z hz))); clear FR9_7
  have LP10_8:=Lib.hid (Rp.upto (Rp.upto LP10_7.out hB7 (fun z hz hb=>nb10 (List.mem_singleton.1 hb ▸ hz))) hu8 (fun z hz hy=>dd7 z hy (List.mem_append.2 (.inr (List.mem_append.2 (.inr (List.mem_append.2 (.inl hz)))))))); clear LP10_7
  have FR10_8:=Lib.hid (fun (z:Nat) (hz:z ∈ f33)=>((FR10_7.out z hz)).frame (hu8.block z (Free.lt (FR10_7.out z hz)) ((fun z hz hy=>dd7 z hy (List.mem_append.2 (.inr (List.mem_append.2 (.inr (List.mem_append.2 (.inl hz))))))) z hz))); clear FR10_7
  have LP11_8:=Lib.hid (Rp.upto (Rp.upto LP11_7.out hB7 (fun z hz hb=>nb11 (List.mem_singleton.1 hb ▸ hz))) hu8 (fun z hz hy=>dd7 z hy (List.mem_append.2 (.inr (List.mem_append.2 (.inr (List.mem_append.2 (.inr (hz))))))))); clear LP11_7
  have FR11_8:=Lib.hid (fun (z:Nat) (hz:z ∈ f31)=>((FR11_7.out z hz)).frame (hu8.block z (Free.lt (FR11_7.out z hz)) ((fun z hz hy=>dd7 z hy (List.mem_append.2 (.inr (List.mem_append.2 (.inr (List.mem_append.2 (.inr (hz)))))))) z hz))); clear FR11_7
  clear hu8 hB7 FR7_7
  go_wp2_with fail
  have hB8:Upto [b] w8 _:=((Upto.refl [b] w8).setCell (p:=⟨b,off+j * 18+12,none⟩) List.mem_cons_self (Value.bool ((q+1+(x[j].1.1.2.length:Nat)+(x[j].1.2.length:Nat)+1+(x[j].2.1.1.2.length:Nat)+(x[j].2.1.2.length:Nat)+1+(x[j].2.2.1.1.2.length:Nat)+(x[j].2.2.1.2.length:Nat)+1+(x[j].2.2.2.1.1.2.length:Nat)+(x[j].2.2.2.1.2.length:Nat)) % 3 == 0)))
  refine (markIntS_any _ _ _ f29 _ (Rp.upto LP8_8.out hB8 (fun z hz hb=>nb8 (List.mem_singleton.1 hb ▸ hz))) nd8 (fun z hz=>((FR8_8.out z hz).setCell _ _)) (by omega) (by omega)).mono ?_
  rintro e w9 ⟨v,rfl,rfl,hmm,hu9⟩
  have hbl9:b < w9.heap.size:=Nat.lt_of_lt_of_le (by simpa using hbl8) hu9.size
  have hcb9:=hu9.cell (b:=b) (by simpa using hbl8) nb8
  have hfb9:=hu9.frozen (b:=b) (by simpa using hbl8) nb8
  have HT9:=Lib.hid ((HT8.out.setCell (p:=⟨b,off+j * 18+12,none⟩) List.mem_cons_self (Value.bool ((q+1+(x[j].1.1.2.length:Nat)+(x[j].1.2.length:Nat)+1+(x[j].2.1.1.2.length:Nat)+(x[j].2.1.2.length:Nat)+1+(x[j].2.2.1.1.2.length:Nat)+(x[j].2.2.1.2.length:Nat)+1+(x[j].2.2.2.1.1.2.length:Nat)+(x[j].2.2.2.1.2.length:Nat)) % 3 == 0))).trans (hu9.mono fun z hz=>List.mem_cons_of_mem _ (hm8 z hz))); clear HT8
  have HO9:=Lib.hid (fun (o:Nat) (ho:o < off+j * 18\/off+j * 18+18<=o)=>(hcb9 o).trans ((setCell_out (Value.bool ((q+1+(x[j].1.1.2.length:Nat)+(x[j].1.2.length:Nat)+1+(x[j].2.1.1.2.length:Nat)+(x[j].2.1.2.length:Nat)+1+(x[j].2.2.1.1.2.length:Nat)+(x[j].2.2.1.2.length:Nat)+1+(x[j].2.2.2.1.1.2.length:Nat)+(x[j].2.2.2.1.2.length:Nat)) % 3 == 0)) (by omega)).trans (HO8.out o ho))); clear HO8
  have LP0_9:=Lib.hid (Rp.upto (Rp.upto LP0_8.out hB8 (fun z hz hb=>nb0 (List.mem_singleton.1 hb ▸ hz))) hu9 (fun z hy hz=>dd0 z hy (List.mem_append.2 (.inr (List.mem_append.2 (.inr (List.mem_append.2 (.inr (List.mem_append.2 (.inr (List.mem_append.2 (.inr (List.mem_append.2 (.inr (List.mem_append.2 (.inr (List.mem_append.2 (.inl hz)))))))))))))))))); clear LP0_8
  have LP1_9:=Lib.hid (Rp.upto (Rp.upto LP1_8.out hB8 (fun z hz hb=>nb1 (List.mem_singleton.1 hb ▸ hz))) hu9 (fun z hy hz=>dd1 z hy (List.mem_append.2 (.inr (List.mem_append.2 (.inr (List.mem_append.2 (.inr (List.mem_append.2 (.inr (List.mem_append.2 (.inr (List.mem_append.2 (.inr (List.mem_append.2 (.inl hz)))))))))))))))); clear LP1_8
  have LP2_9:=Lib.hid (Rp.upto (Rp.upto LP2_8.out hB8 (fun z hz hb=>nb2 (List.mem_singleton.1 hb ▸ hz))) hu9 (fun z hy hz=>dd2 z hy (List.mem_append.2 (.inr (List.mem_append.2 (.inr (List.mem_append.2 (.inr (List.mem_append.2 (.inr (List.mem_append.2 (.inr (List.mem_append.2 (.inl hz)))))))))))))); clear LP2_8
  have LP3_9:=Lib.hid (Rp.upto (Rp.upto LP3_8.out hB8 (fun z hz hb=>nb3 (List.mem_singleton.1 hb ▸ hz))) hu9 (fun z hy hz=>dd3 z hy (List.mem_append.2 (.inr (List.mem_append.2 (.inr (List.mem_append.2 (.inr (List.mem_append.2 (.inr (List.mem_append.2 (.inl hz)))))))))))); clear LP3_8
  have LP4_9:=Lib.hid (Rp.upto (Rp.upto LP4_8.out hB8 (fun z hz hb=>nb4 (List.mem_singleton.1 hb ▸ hz))) hu9 (fun z hy hz=>dd4 z hy (List.mem_append.2 (.inr (List.mem_append.2 (.inr (List.mem_append.2 (.inr (List.mem_append.2 (.inl hz)))))))))); clear LP4_8
  have LP5_9:=Lib.hid (Rp.upto (Rp.upto LP5_8.out hB8 (fun z hz hb=>nb5 (List.mem_singleton.1 hb ▸ hz))) hu9 (fun z hy hz=>dd5 z hy (List.mem_append.2 (.inr (List.mem_append.2 (.inr (List.mem_append.2 (.inl hz)))))))); clear LP5_8
  have LP6_9:=Lib.hid (Rp.upto (Rp.upto LP6_8.out hB8 (fun z hz hb=>nb6 (List.mem_singleton.1 hb ▸ hz))) hu9 (fun z hy hz=>dd6 z hy (List.mem_append.2 (.inr (List.mem_append.2 (.inl hz)))))); clear LP6_8
  have LP7_9:=Lib.hid (Rp.upto (Rp.upto LP7_8.out hB8 (fun z hz hb=>nb7 (List.mem_singleton.1 hb ▸ hz))) hu9 (fun z hy hz=>dd7 z hy (List.mem_append.2 (.inl hz)))); clear LP7_8
  have LP8_9:=Lib.hid hmm; clear hmm LP8_8
  have LP9_9:=Lib.hid (Rp.upto (Rp.upto LP9_8.out hB8 (fun z hz hb=>nb9 (List.mem_singleton.1 hb ▸ hz))) hu9 (fun z hz hy=>dd8 z hy (List.mem_append.2 (.inl hz)))); clear LP9_8
  have FR9_9:=Lib.hid (fun (z:Nat) (hz:z ∈ f27)=>(((FR9_8.out z hz).setCell _ _)).frame (hu9.block z (Free.lt ((FR9_8.out z hz).setCell _ _)) ((fun z hz hy=>dd8 z hy (List.mem_append.2 (.inl hz))) z hz))); clear FR9_8
  have LP10_9:=Lib.hid (Rp.upto (Rp.upto LP10_8.out hB8 (fun z hz hb=>nb10 (List.mem_singleton.1 hb ▸ hz))) hu9 (fun z hz hy=>dd8 z hy (List.mem_append.2 (.inr (List.mem_append.2 (.inl hz)))))); clear LP10_8
  have FR10_9:=Lib.hid (fun (z:Nat) (hz:z ∈ f33)=>(((FR10_8.out z hz).setCell _ _)).frame (hu9.block z (Free.lt ((FR10_8.out z hz).setCell _ _)) ((fun z hz hy=>dd8 z hy (List.mem_append.2 (.inr (List.mem_append.2 (.inl hz))))) z hz))); clear FR10_8
  have LP11_9:=Lib.hid (Rp.upto (Rp.upto LP11_8.out hB8 (fun z hz hb=>nb11 (List.mem_singleton.1 hb ▸ hz))) hu9 (fun z hz hy=>dd8 z hy (List.mem_append.2 (.inr (List.mem_append.2 (.inr (hz))))))); clear LP11_8
  have FR11_9:=Lib.hid (fun (z:Nat) (hz:z ∈ f31)=>(((FR11_8.out z hz).setCell _ _)).frame (hu9.block z (Free.lt ((FR11_8.out z hz).setCell _ _)) ((fun z hz hy=>dd8 z hy (List.mem_append.2 (.inr (List.mem_append.2 (.inr (hz)))))) z hz))); clear FR11_8
  clear hu9 hB8 FR8_8
  go_wp2_with fail
  have hB9:Upto [b] w9 _:=(Upto.refl [b] w9)
  refine (markIntS_any _ _ _ f27 _ (Rp.upto LP9_9.out hB9 (fun z hz hb=>nb9 (List.mem_singleton.1 hb ▸ hz))) nd9 (fun z hz=>(FR9_9.out z hz)) (by omega) (by omega)).mono ?_
  rintro e w10 ⟨v,rfl,rfl,hmm,hu10⟩
  have hbl10:b < w10.heap.size:=Nat.lt_of_lt_of_le (by simpa using hbl9) hu10.size
  have hcb10:=hu10.cell (b:=b) (by simpa using hbl9) nb9
  have hfb10:=hu10.frozen (b:=b) (by simpa using hbl9) nb9
  have HT10:=Lib.hid (HT9.out.trans (hu10.mono fun z hz=>List.mem_cons_of_mem _ (hm9 z hz))); clear HT9
  have HO10:=Lib.hid (fun (o:Nat) (ho:o < off+j * 18\/off+j * 18+18<=o)=>(hcb10 o).trans (HO9.out o ho)); clear HO9
  have LP0_10:=Lib.hid (Rp.upto (Rp.upto LP0_9.out hB9 (fun z hz hb=>nb0 (List.mem_singleton.1 hb ▸ hz))) hu10 (fun z hy hz=>dd0 z hy (List.mem_append.2 (.inr (List.mem_append.2 (.inr (List.mem_append.2 (.inr (List.mem_append.2 (.inr (List.mem_append.2 (.inr (List.mem_append.2 (.inr (List.mem_append.2 (.inr (List.mem_append.2 (.inr (List.mem_append.2 (.inl hz)))))))))))))))))))); clear LP0_9
  have LP1_10:=Lib.hid (Rp.upto (Rp.upto LP1_9.out hB9 (fun z hz hb=>nb1 (List.mem_singleton.1 hb ▸ hz))) hu10 (fun z hy hz=>dd1 z hy (List.mem_append.2 (.inr (List.mem_append.2 (.inr (List.mem_append.2 (.inr (List.mem_append.2 (.inr (List.mem_append.2 (.inr (List.mem_append.2 (.inr (List.mem_append.2 (.inr (List.mem_append.2 (.inl hz)))))))))))))))))); clear LP1_9
  have LP2_10:=Lib.hid (Rp.upto (Rp.upto LP2_9.out hB9 (fun z hz hb=>nb2 (List.mem_singleton.1 hb ▸ hz))) hu10 (fun z hy hz=>dd2 z hy (List.mem_append.2 (.inr (List.mem_append.2 (.inr (List.mem_append.2 (.inr (List.mem_append.2 (.inr (List.mem_append.2 (.inr (List.mem_append.2 (.inr (List.mem_append.2 (.inl hz)))))))))))))))); clear LP2_9
  have LP3_10:=Lib.hid (Rp.upto (Rp.upto LP3_9.out hB9 (fun z hz hb=>nb3 (List.mem_singleton.1 hb ▸ hz))) hu10 (fun z hy hz=>dd3 z hy (List.mem_append.2 (.inr (List.mem_append.2 (.inr (List.mem_append.2 (.inr (List.mem_append.2 (.inr (List.mem_append.2 (.inr (List.mem_append.2 (.inl hz)))))))))))))); clear LP3_9
  have LP4_10:=Lib.hid (Rp.upto (Rp.upto LP4_9.out hB9 (fun z hz hb=>nb4 (List.mem_singleton.1 hb ▸ hz))) hu10 (fun z hy hz=>dd4 z hy (List.mem_append.2 (.inr (List.mem_append.2 (.inr (List.mem_append.2 (.inr (List.mem_append.2 (.inr (List.mem_append.2 (.inl hz)))))))))))); clear LP4_9
  have LP5_10:=Lib.hid (Rp.upto (Rp.upto LP5_9.out hB9 (fun z hz hb=>nb5 (List.mem_singleton.1 hb ▸ hz))) hu10 (fun z hy hz=>dd5 z hy (List.mem_append.2 (.inr (List.mem_append.2 (.inr (List.mem_append.2 (.inr (List.mem_append.2 (.inl hz)))))))))); clear LP5_9
  have LP6_10:=Lib.hid (Rp.upto (Rp.upto LP6_9.out hB9 (fun z hz hb=>nb6 (List.mem_singleton.1 hb ▸ hz))) hu10 (fun z hy hz=>dd6 z hy (List.mem_append.2 (.inr (List.mem_append.2 (.inr (List.mem_append.2 (.inl hz)))))))); clear LP6_9
  have LP7_10:=Lib.hid (Rp.upto (Rp.upto LP7_9.out hB9 (fun z hz hb=>nb7 (List.mem_singleton.1 hb ▸ hz))) hu10 (fun z hy hz=>dd7 z hy (List.mem_append.2 (.inr (List.mem_append.2 (.inl hz)))))); clear LP7_9
  have LP8_10:=Lib.hid (Rp.upto (Rp.upto LP8_9.out hB9 (fun z hz hb=>nb8 (List.mem_singleton.1 hb ▸ hz))) hu10 (fun z hy hz=>dd8 z hy (List.mem_append.2 (.inl hz)))); clear LP8_9
  have LP9_10:=Lib.hid hmm; clear hmm LP9_9
  have LP10_10:=Lib.hid (Rp.upto (Rp.upto LP10_9.out hB9 (fun z hz hb=>nb10 (List.mem_singleton.1 hb ▸ hz))) hu10 (fun z hz hy=>dd9 z hy (List.mem_append.2 (.inl hz)))); clear LP10_9
  have FR10_10:=Lib.hid (fun (z:Nat) (hz:z ∈ f33)=>((FR10_9.out z hz)).frame (hu10.block z (Free.lt (FR10_9.out z hz)) ((fun z hz hy=>dd9 z hy (List.mem_append.2 (.inl hz))) z hz))); clear FR10_9
  have LP11_10:=Lib.hid (Rp.upto (Rp.upto LP11_9.out hB9 (fun z hz hb=>nb11 (List.mem_singleton.1 hb ▸ hz))) hu10 (fun z hz hy=>dd9 z hy (List.mem_append.2 (.inr (hz))))); clear LP11_9
  have FR11_10:=Lib.hid (fun (z:Nat) (hz:z ∈ f31)=>((FR11_9.out z hz)).frame (hu10.block z (Free.lt (FR11_9.out z hz)) ((fun z hz hy=>dd9 z hy (List.mem_append.2 (.inr (hz)))) z hz))); clear FR11_9
  clear hu10 hB9 FR9_9
  go_wp2_with fail
  have hB10:Upto [b] w10 _:=((Upto.refl [b] w10).setCell (p:=⟨b,off+j * 18+15,none⟩) List.mem_cons_self (Value.bool ((q+1+(x[j].1.1.2.length:Nat)+(x[j].1.2.length:Nat)+1+(x[j].2.1.1.2.length:Nat)+(x[j].2.1.2.length:Nat)+1+(x[j].2.2.1.1.2.length:Nat)+(x[j].2.2.1.2.length:Nat)+1+(x[j].2.2.2.1.1.2.length:Nat)+(x[j].2.2.2.1.2.length:Nat)+1+(x[j].2.2.2.2.1.1.2.length:Nat)+(x[j].2.2.2.2.1.2.length:Nat)) % 3 == 0)))
  refine (markIntS_any _ _ _ f33 _ (Rp.upto LP10_10.out hB10 (fun z hz hb=>nb10 (List.mem_singleton.1 hb ▸ hz))) nd10 (fun z hz=>((FR10_10.out z hz).setCell _ _)) (by omega) (by omega)).mono ?_
  rintro e w11 ⟨v,rfl,rfl,hmm,hu11⟩
  have hbl11:b < w11.heap.size:=Nat.lt_of_lt_of_le (by simpa using hbl10) hu11.size
  have hcb11:=hu11.cell (b:=b) (by simpa using hbl10) nb10
  have hfb11:=hu11.frozen (b:=b) (by simpa using hbl10) nb10
  have HT11:=Lib.hid ((HT10.out.setCell (p:=⟨b,off+j * 18+15,none⟩) List.mem_cons_self (Value.bool ((q+1+(x[j].1.1.2.length:Nat)+(x[j].1.2.length:Nat)+1+(x[j].2.1.1.2.length:Nat)+(x[j].2.1.2.length:Nat)+1+(x[j].2.2.1.1.2.length:Nat)+(x[j].2.2.1.2.length:Nat)+1+(x[j].2.2.2.1.1.2.length:Nat)+(x[j].2.2.2.1.2.length:Nat)+1+(x[j].2.2.2.2.1.1.2.length:Nat)+(x[j].2.2.2.2.1.2.length:Nat)) % 3 == 0))).trans (hu11.mono fun z hz=>List.mem_cons_of_mem _ (hm10 z hz))); clear HT10
  have HO11:=Lib.hid (fun (o:Nat) (ho:o < off+j * 18\/off+j * 18+18<=o)=>(hcb11 o).trans ((setCell_out (Value.bool ((q+1+(x[j].1.1.2.length:Nat)+(x[j].1.2.length:Nat)+1+(x[j].2.1.1.2.length:Nat)+(x[j].2.1.2.length:Nat)+1+(x[j].2.2.1.1.2.length:Nat)+(x[j].2.2.1.2.length:Nat)+1+(x[j].2.2.2.1.1.2.length:Nat)+(x[j].2.2.2.1.2.length:Nat)+1+(x[j].2.2.2.2.1.1.2.length:Nat)+(x[j].2.2.2.2.1.2.length:Nat)) % 3 == 0)) (by omega)).trans (HO10.out o ho))); clear HO10
  have LP0_11:=Lib.hid (Rp.upto (Rp.upto LP0_10.out hB10 (fun z hz hb=>nb0 (List.mem_singleton.1 hb ▸ hz))) hu11 (fun z hy hz=>dd0 z hy (List.mem_append.2 (.inr (List.mem_append.2 (.inr (List.mem_append.2 (.inr (List.mem_append.2 (.inr (List.mem_append.2 (.inr (List.mem_append.2 (.inr (List.mem_append.2 (.inr (List.mem_append.2 (.inr (List.mem_append.2 (.inr (List.mem_append.2 (.inl hz)))))))))))))))))))))); clear LP0_10
  have LP1_11:=Lib.hid (Rp.upto (Rp.upto LP1_10.out hB10 (fun z hz hb=>nb1 (List.mem_singleton.1 hb ▸ hz))) hu11 (fun z hy hz=>dd1 z hy (List.mem_append.2 (.inr (List.mem_append.2 (.inr (List.mem_append.2 (.inr (List.mem_append.2 (.inr (List.mem_append.2 (.inr (List.mem_append.2 (.inr (List.mem_append.2 (.inr (List.mem_append.2 (.inr (List.mem_append.2 (.inl hz)))))))))))))))))))); clear LP1_10
  have LP2_11:=Lib.hid (Rp.upto (Rp.upto LP2_10.out hB10 (fun z hz hb=>nb2 (List.mem_singleton.1 hb ▸ hz))) hu11 (fun z hy hz=>dd2 z hy (List.mem_append.2 (.inr (List.mem_append.2 (.inr (List.mem_append.2 (.inr (List.mem_append.2 (.inr (List.mem_append.2 (.inr (List.mem_append.2 (.inr (List.mem_append.2 (.inr (List.mem_append.2 (.inl hz)))))))))))))))))); clear LP2_10
  have LP3_11:=Lib.hid (Rp.upto (Rp.upto LP3_10.out hB10 (fun z hz hb=>nb3 (List.mem_singleton.1 hb ▸ hz))) hu11 (fun z hy hz=>dd3 z hy (List.mem_append.2 (.inr (List.mem_append.2 (.inr (List.mem_append.2 (.inr (List.mem_append.2 (.inr (List.mem_append.2 (.inr (List.mem_append.2 (.inr (List.mem_append.2 (.inl hz)))))))))))))))); clear LP3_10
  have LP4_11:=Lib.hid (Rp.upto (Rp.upto LP4_10.out hB10 (fun z hz hb=>nb4 (List.mem_singleton.1 hb ▸ hz))) hu11 (fun z hy hz=>dd4 z hy (List.mem_append.2 (.inr (List.mem_append.2 (.inr (List.mem_append.2 (.inr (List.mem_append.2 (.inr (List.mem_append.2 (.inr (List.mem_append.2 (.inl hz)))))))))))))); clear LP4_10
  have LP5_11:=Lib.hid (Rp.upto (Rp.upto LP5_10.out hB10 (fun z hz hb=>nb5 (List.mem_singleton.1 hb ▸ hz))) hu11 (fun z hy hz=>dd5 z hy (List.mem_append.2 (.inr (List.mem_append.2 (.inr (List.mem_append.2 (.inr (List.mem_append.2 (.inr (List.mem_append.2 (.inl hz)))))))))))); clear LP5_10
  have LP6_11:=Lib.hid (Rp.upto (Rp.upto LP6_10.out hB10 (fun z hz hb=>nb6 (List.mem_singleton.1 hb ▸ hz))) hu11 (fun z hy hz=>dd6 z hy (List.mem_append.2 (.inr (List.mem_append.2 (.inr (List.mem_append.2 (.inr (List.mem_append.2 (.inl hz)))))))))); clear LP6_10
  have LP7_11:=Lib.hid (Rp.upto (Rp.upto LP7_10.out hB10 (fun z hz hb=>nb7 (List.mem_singleton.1 hb ▸ hz))) hu11 (fun z hy hz=>dd7 z hy (List.mem_append.2 (.inr (List.mem_append.2 (.inr (List.mem_append.2 (.inl hz)))))))); clear LP7_10
  have LP8_11:=Lib.hid (Rp.upto (Rp.upto LP8_10.out hB10 (fun z hz hb=>nb8 (List.mem_singleton.1 hb ▸ hz))) hu11 (fun z hy hz=>dd8 z hy (List.mem_append.2 (.inr (List.mem_append.2 (.inl hz)))))); clear LP8_10
  have LP9_11:=Lib.hid (Rp.upto (Rp.upto LP9_10.out hB10 (fun z hz hb=>nb9 (List.mem_singleton.1 hb ▸ hz))) hu11 (fun z hy hz=>dd9 z hy (List.mem_append.2 (.inl hz)))); clear LP9_10
  have LP10_11:=Lib.hid hmm; clear hmm LP10_10
  have LP11_11:=Lib.hid (Rp.upto (Rp.upto LP11_10.out hB10 (fun z hz hb=>nb11 (List.mem_singleton.1 hb ▸ hz))) hu11 (fun z hz hy=>dd10 z hy (hz))); clear LP11_10
  have FR11_11:=Lib.hid (fun (z:Nat) (hz:z ∈ f31)=>(((FR11_10.out z hz).setCell _ _)).frame (hu11.block z (Free.lt ((FR11_10.out z hz).setCell _ _)) ((fun z hz hy=>dd10 z hy (hz)) z hz))); clear FR11_10
  clear hu11 hB10 FR10_10
  go_wp2_with fail
  have hB11:Upto [b] w11 _:=(Upto.refl [b] w11)
  refine (markIntS_any _ _ _ f31 _ (Rp.upto LP11_11.out hB11 (fun z hz hb=>nb11 (List.mem_singleton.1 hb ▸ hz))) nd11 (fun z hz=>(FR11_11.out z hz)) (by omega) (by omega)).mono ?_
  rintro e w12 ⟨v,rfl,rfl,hmm,hu12⟩
  have hbl12:b < w12.heap.size:=Nat.lt_of_lt_of_le (by simpa using hbl11) hu12.size
  have hcb12:=hu12.cell (b:=b) (by simpa using hbl11) nb11
  have hfb12:=hu12.frozen (b:=b) (by simpa using hbl11) nb11
  have HT12:=Lib.hid (HT11.out.trans (hu12.mono fun z hz=>List.mem_cons_of_mem _ (hm11 z hz))); clear HT11
  have HO12:=Lib.hid (fun (o:Nat) (ho:o < off+j * 18\/off+j * 18+18<=o)=>(hcb12 o).trans (HO11.out o ho)); clear HO11
  have LP0_12:=Lib.hid (Rp.upto (Rp.upto LP0_11.out hB11 (fun z hz hb=>nb0 (List.mem_singleton.1 hb ▸ hz))) hu12 (fun z hy hz=>dd0 z hy (List.mem_append.2 (.inr (List.mem_append.2 (.inr (List.mem_append.2 (.inr (List.mem_append.2 (.inr (List.mem_append.2 (.inr (List.mem_append.2 (.inr (List.mem_append.2 (.inr (List.mem_append.2 (.inr (List.mem_append.2 (.inr (List.mem_append.2 (.inr (hz))))))))))))))))))))))); clear LP0_11
  have LP1_12:=Lib.hid (Rp.upto (Rp.upto LP1_11.out hB11 (fun z hz hb=>nb1 (List.mem_singleton.1 hb ▸ hz))) hu12 (fun z hy hz=>dd1 z hy (List.mem_append.2 (.inr (List.mem_append.2 (.inr (List.mem_append.2 (.inr (List.mem_append.2 (.inr (List.mem_append.2 (.inr (List.mem_append.2 (.inr (List.mem_append.2 (.inr (List.mem_append.2 (.inr (List.mem_append.2 (.inr (hz))))))))))))))))))))); clear LP1_11
  have LP2_12:=Lib.hid (Rp.upto (Rp.upto LP2_11.out hB11 (fun z hz hb=>nb2 (List.mem_singleton.1 hb ▸ hz))) hu12 (fun z hy hz=>dd2 z hy (List.mem_append.2 (.inr (List.mem_append.2 (.inr (List.mem_append.2 (.inr (List.mem_append.2 (.inr (List.mem_append.2 (.inr (List.mem_append.2 (.inr (List.mem_append.2 (.inr (List.mem_append.2 (.inr (hz))))))))))))))))))); clear LP2_11
  have LP3_12:=Lib.hid (Rp.upto (Rp.upto LP3_11.out hB11 (fun z hz hb=>nb3 (List.mem_singleton.1 hb ▸ hz))) hu12 (fun z hy hz=>dd3 z hy (List.mem_append.2 (.inr (List.mem_append.2 (.inr (List.mem_append.2 (.inr (List.mem_append.2 (.inr (List.mem_append.2 (.inr (List.mem_append.2 (.inr (List.mem_append.2 (.inr (hz))))))))))))))))); clear LP3_11
  have LP4_12:=Lib.hid (Rp.upto (Rp.upto LP4_11.out hB11 (fun z hz hb=>nb4 (List.mem_singleton.1 hb ▸ hz))) hu12 (fun z hy hz=>dd4 z hy (List.mem_append.2 (.inr (List.mem_append.2 (.inr (List.mem_append.2 (.inr (List.mem_append.2 (.inr (List.mem_append.2 (.inr (List.mem_append.2 (.inr (hz))))))))))))))); clear LP4_11
  have LP5_12:=Lib.hid (Rp.upto (Rp.upto LP5_11.out hB11 (fun z hz hb=>nb5 (List.mem_singleton.1 hb ▸ hz))) hu12 (fun z hy hz=>dd5 z hy (List.mem_append.2 (.inr (List.mem_append.2 (.inr (List.mem_append.2 (.inr (List.mem_append.2 (.inr (List.mem_append.2 (.inr (hz))))))))))))); clear LP5_11
  have LP6_12:=Lib.hid (Rp.upto (Rp.upto LP6_11.out hB11 (fun z hz hb=>nb6 (List.mem_singleton.1 hb ▸ hz))) hu12 (fun z hy hz=>dd6 z hy (List.mem_append.2 (.inr (List.mem_append.2 (.inr (List.mem_append.2 (.inr (List.mem_append.2 (.inr (hz))))))))))); clear LP6_11
  have LP7_12:=Lib.hid (Rp.upto (Rp.upto LP7_11.out hB11 (fun z hz hb=>nb7 (List.mem_singleton.1 hb ▸ hz))) hu12 (fun z hy hz=>dd7 z hy (List.mem_append.2 (.inr (List.mem_append.2 (.inr (List.mem_append.2 (.inr (hz))))))))); clear LP7_11
  have LP8_12:=Lib.hid (Rp.upto (Rp.upto LP8_11.out hB11 (fun z hz hb=>nb8 (List.mem_singleton.1 hb ▸ hz))) hu12 (fun z hy hz=>dd8 z hy (List.mem_append.2 (.inr (List.mem_append.2 (.inr (hz))))))); clear LP8_11
  have LP9_12:=Lib.hid (Rp.upto (Rp.upto LP9_11.out hB11 (fun z hz hb=>nb9 (List.mem_singleton.1 hb ▸ hz))) hu12 (fun z hy hz=>dd9 z hy (List.mem_append.2 (.inr (hz))))); clear LP9_11
  have LP10_12:=Lib.hid (Rp.upto (Rp.upto LP10_11.out hB11 (fun z hz hb=>nb10 (List.mem_singleton.1 hb ▸ hz))) hu12 (fun z hy hz=>dd10 z hy (hz))); clear LP10_11
  have LP11_12:=Lib.hid hmm; clear hmm LP11_11
  clear hu12 hB11 FR11_11
  go_wp2
  go_roundw
  case rel =>
   have e0:w12.cell? ⟨b,off+j * 18,none⟩=some (Value.bool ((q) % 3 == 0)):=by simp [go_sem,hcb1,hcb2,hcb3,hcb4,hcb5,hcb6,hcb7,hcb8,hcb9,hcb10,hcb11,hcb12,g0]
   have e1:w12.cell? ⟨b,off+j * 18+1,none⟩=some c1:=by simp [go_sem,hcb1,hcb2,hcb3,hcb4,hcb5,hcb6,hcb7,hcb8,hcb9,hcb10,hcb11,hcb12,g1]
   have e2:w12.cell? ⟨b,off+j * 18+2,none⟩=some c2:=by simp [go_sem,hcb1,hcb2,hcb3,hcb4,hcb5,hcb6,hcb7,hcb8,hcb9,hcb10,hcb11,hcb12,g2]
   have e3:w12.cell? ⟨b,off+j * 18+3,none⟩=some (Value.bool ((q+1+(x[j].1.1.2.length:Nat)+(x[j].1.2.length:Nat)) % 3 == 0)):=by simp [go_sem,hcb1,hcb2,hcb3,hcb4,hcb5,hcb6,hcb7,hcb8,hcb9,hcb10,hcb11,hcb12,g3]
   have e4:w12.cell? ⟨b,off+j * 18+4,none⟩=some c4:=by simp [go_sem,hcb1,hcb2,hcb3,hcb4,hcb5,hcb6,hcb7,hcb8,hcb9,hcb10,hcb11,hcb12,g4]
   have e5:w12.cell? ⟨b,off+j * 18+5,none⟩=some c5:=by simp [go_sem,hcb1,hcb2,hcb3,hcb4,hcb5,hcb6,hcb7,hcb8,hcb9,hcb10,hcb11,hcb12,g5]
   have e6:w12.cell? ⟨b,off+j * 18+6,none⟩=some (Value.bool ((q+1+(x[j].1.1.2.length:Nat)+(x[j].1.2.length:Nat)+1+(x[j].2.1.1.2.length:Nat)+(x[j].2.1.2.length:Nat)) % 3 == 0)):=by simp [go_sem,hcb1,hcb2,hcb3,hcb4,hcb5,hcb6,hcb7,hcb8,hcb9,hcb10,hcb11,hcb12,g6]
   have e7:w12.cell? ⟨b,off+j * 18+7,none⟩=some c7:=by simp [go_sem,hcb1,hcb2,hcb3,hcb4,hcb5,hcb6,hcb7,hcb8,hcb9,hcb10,hcb11,hcb12,g7]
   have e8:w12.cell? ⟨b,off+j * 18+8,none⟩=some c8:=by simp [go_sem,hcb1,hcb2,hcb3,hcb4,hcb5,hcb6,hcb7,hcb8,hcb9,hcb10,hcb11,hcb12,g8]
   have e9:w12.cell? ⟨b,off+j * 18+9,none⟩=some (Value.bool ((q+1+(x[j].1.1.2.length:Nat)+(x[j].1.2.length:Nat)+1+(x[j].2.1.1.2.length:Nat)+(x[j].2.1.2.length:Nat)+1+(x[j].2.2.1.1.2.length:Nat)+(x[j].2.2.1.2.length:Nat)) % 3 == 0)):=by simp [go_sem,hcb1,hcb2,hcb3,hcb4,hcb5,hcb6,hcb7,hcb8,hcb9,hcb10,hcb11,hcb12,g9]
   have e10:w12.cell? ⟨b,off+j * 18+10,none⟩=some c10:=by simp [go_sem,hcb1,hcb2,hcb3,hcb4,hcb5,hcb6,hcb7,hcb8,hcb9,hcb10,hcb11,hcb12,g10]
   have e11:w12.cell? ⟨b,off+j * 18+11,none⟩=some c11:=by simp [go_sem,hcb1,hcb2,hcb3,hcb4,hcb5,hcb6,hcb7,hcb8,hcb9,hcb10,hcb11,hcb12,g11]
   have e12:w12.cell? ⟨b,off+j * 18+12,none⟩=some (Value.bool ((q+1+(x[j].1.1.2.length:Nat)+(x[j].1.2.length:Nat)+1+(x[j].2.1.1.2.length:Nat)+(x[j].2.1.2.length:Nat)+1+(x[j].2.2.1.1.2.length:Nat)+(x[j].2.2.1.2.length:Nat)+1+(x[j].2.2.2.1.1.2.length:Nat)+(x[j].2.2.2.1.2.length:Nat)) % 3 == 0)):=by simp [go_sem,hcb1,hcb2,hcb3,hcb4,hcb5,hcb6,hcb7,hcb8,hcb9,hcb10,hcb11,hcb12,g12]
   have e13:w12.cell? ⟨b,off+j * 18+13,none⟩=some c13:=by simp [go_sem,hcb1,hcb2,hcb3,hcb4,hcb5,hcb6,hcb7,hcb8,hcb9,hcb10,hcb11,hcb12,g13]
   have e14:w12.cell? ⟨b,off+j * 18+14,none⟩=some c14:=by simp [go_sem,hcb1,hcb2,hcb3,hcb4,hcb5,hcb6,hcb7,hcb8,hcb9,hcb10,hcb11,hcb12,g14]
   have e15:w12.cell? ⟨b,off+j * 18+15,none⟩=some (Value.bool ((q+1+(x[j].1.1.2.length:Nat)+(x[j].1.2.length:Nat)+1+(x[j].2.1.1.2.length:Nat)+(x[j].2.1.2.length:Nat)+1+(x[j].2.2.1.1.2.length:Nat)+(x[j].2.2.1.2.length:Nat)+1+(x[j].2.2.2.1.1.2.length:Nat)+(x[j].2.2.2.1.2.length:Nat)+1+(x[j].2.2.2.2.1.1.2.length:Nat)+(x[j].2.2.2.2.1.2.length:Nat)) % 3 == 0)):=by simp [go_sem,hcb1,hcb2,hcb3,hcb4,hcb5,hcb6,hcb7,hcb8,hcb9,hcb10,hcb11,hcb12,g15]
   have e16:w12.cell? ⟨b,off+j * 18+16,none⟩=some c16:=by simp [go_sem,hcb1,hcb2,hcb3,hcb4,hcb5,hcb6,hcb7,hcb8,hcb9,hcb10,hcb11,hcb12,g16]
   have e17:w12.cell? ⟨b,off+j * 18+17,none⟩=some c17:=by simp [go_sem,hcb1,hcb2,hcb3,hcb4,hcb5,hcb6,hcb7,hcb8,hcb9,hcb10,hcb11,hcb12,g17]
   have hup:=HEr.out.update (w':=w12) (x':=emCell x[j] q) (cs':=[(Value.bool ((q) % 3 == 0)),c1,c2,(Value.bool ((q+1+(x[j].1.1.2.length:Nat)+(x[j].1.2.length:Nat)) % 3 == 0)),c4,c5,(Value.bool ((q+1+(x[j].1.1.2.length:Nat)+(x[j].1.2.length:Nat)+1+(x[j].2.1.1.2.length:Nat)+(x[j].2.1.2.length:Nat)) % 3 == 0)),c7,c8,(Value.bool ((q+1+(x[j].1.1.2.length:Nat)+(x[j].1.2.length:Nat)+1+(x[j].2.1.1.2.length:Nat)+(x[j].2.1.2.length:Nat)+1+(x[j].2.2.1.1.2.length:Nat)+(x[j].2.2.1.2.length:Nat)) % 3 == 0)),c10,c11,(Value.bool ((q+1+(x[j].1.1.2.length:Nat)+(x[j].1.2.length:Nat)+1+(x[j].2.1.1.2.length:Nat)+(x[j].2.1.2.length:Nat)+1+(x[j].2.2.1.1.2.length:Nat)+(x[j].2.2.1.2.length:Nat)+1+(x[j].2.2.2.1.1.2.length:Nat)+(x[j].2.2.2.1.2.length:Nat)) % 3 == 0)),c13,c14,(Value.bool ((q+1+(x[j].1.1.2.length:Nat)+(x[j].1.2.length:Nat)+1+(x[j].2.1.1.2.length:Nat)+(x[j].2.1.2.length:Nat)+1+(x[j].2.2.1.1.2.length:Nat)+(x[j].2.2.1.2.length:Nat)+1+(x[j].2.2.2.1.1.2.length:Nat)+(x[j].2.2.2.1.2.length:Nat)+1+(x[j].2.2.2.2.1.1.2.length:Nat)+(x[j].2.2.2.2.1.2.length:Nat)) % 3 == 0)),c16,c17]) HN.out HFJ.out (rep_pair (rep_pair (rep_pair (rep_bool [] (by first|rfl|(simp only [ecCell,ecRat,ecBigInt]; omega))) (rep_cast LP0_12.out (congrArg (mkIntS _) (by first|rfl|(simp only [ecCell,ecRat,ecBigInt]; omega))))) (rep_cast LP1_12.out (congrArg (mkIntS _) (by first|rfl|(simp only [ecCell,ecRat,ecBigInt]; omega))))) (rep_pair (rep_pair (rep_pair (rep_bool [] (by first|rfl|(simp only [ecCell,ecRat,ecBigInt]; omega))) (rep_cast LP2_12.out (congrArg (mkIntS _) (by first|rfl|(simp only [ecCell,ecRat,ecBigInt]; omega))))) (rep_cast LP3_12.out (congrArg (mkIntS _) (by first|rfl|(simp only [ecCell,ecRat,ecBigInt]; omega))))) (rep_pair (rep_pair (rep_pair (rep_bool [] (by first|rfl|(simp only [ecCell,ecRat,ecBigInt]; omega))) (rep_cast LP4_12.out (congrArg (mkIntS _) (by first|rfl|(simp only [ecCell,ecRat,ecBigInt]; omega))))) (rep_cast LP5_12.out (congrArg (mkIntS _) (by first|rfl|(simp only [ecCell,ecRat,ecBigInt]; omega))))) (rep_pair (rep_pair (rep_pair (rep_bool [] (by first|rfl|(simp only [ecCell,ecRat,ecBigInt]; omega))) (rep_cast LP6_12.out (congrArg (mkIntS _) (by first|rfl|(simp only [ecCell,ecRat,ecBigInt]; omega))))) (rep_cast LP7_12.out (congrArg (mkIntS _) (by first|rfl|(simp only [ecCell,ecRat,ecBigInt]; omega))))) (rep_pair (rep_pair (rep_pair (rep_bool [] (by first|rfl|(simp only [ecCell,ecRat,ecBigInt]; omega))) (rep_cast LP8_12.out (congrArg (mkIntS _) (by first|rfl|(simp only [ecCell,ecRat,ecBigInt]; omega))))) (rep_cast LP9_12.out (congrArg (mkIntS _) (by first|rfl|(simp only [ecCell,ecRat,ecBigInt]; omega))))) (rep_pair (rep_pair (rep_bool [] (by first|rfl|(simp only [ecCell,ecRat,ecBigInt]; omega))) (rep_cast LP10_12.out (congrArg (mkIntS _) (by first|rfl|(simp only [ecCell,ecRat,ecBigInt]; omega))))) (rep_cast LP11_12.out (congrArg (mkIntS _) (by first|rfl|(simp only [ecCell,ecRat,ecBigInt]; omega)))))))))) (cells_cons e0 (cells_cons e1 (cells_cons e2 (cells_cons e3 (cells_cons e4 (cells_cons e5 (cells_cons e6 (cells_cons e7 (cells_cons e8 (cells_cons e9 (cells_cons e10 (cells_cons e11 (cells_cons e12 (cells_cons e13 (cells_cons e14 (cells_cons e15 (cells_cons e16 (cells_cons e17 cells_nil))))))))))))))))))
    (fun z hz hzb hzf=>(HT12.out).block z hz (by rw [List.mem_cons]; exact fun h=>h.elim hzb hzf))
    (fun o ho=>have ho:o < off+j * 18\/off+j * 18+18<=o:=by have h1:(j+1) * 18=j * 18+18:=Nat.succ_mul _ _; have h2:o < off+j * 18\/off+(j+1) * 18<=o:=ho; omega
     (HO12.out o ho))
   have e:(mkCellS (x.take j) k++x.drop j).set j (emCell x[j] q)=mkCellS (x.take (j+1)) k++x.drop (j+1):=by
    rw [List.set_append_right _ _ (by rw [HML.out]; exact Nat.le_refl _),HML.out,Nat.sub_self,List.drop_eq_getElem_cons hjl,List.set_cons_zero,List.take_succ_eq_append_getElem hjl,mkCellS_snoc,<-HQ.out]
    simp
   rw [e] at hup
   refine ⟨j+1,by omega,by go_num,congrArg (Value.int .i64) ?_,hup,HU.out.trans ((HT12.out).mono ?_)⟩
   ·have h1:=HQ.out; have h2:=HEC.out; simp only [ecCell,ecRat,ecBigInt] at h2; omega
   ·intro z hz; rcases List.mem_cons.1 hz with rfl|hz; exact List.mem_cons_self; exact List.mem_cons_of_mem _ (flat_mem HFJ.out z hz)
  case measure=>simp [intOf]; omega
set_option maxHeartbeats 1000000 in
theorem markWallS_any (v:Value) (x:DWallS) (k:Int) (fp:List Nat) (w:World) (hx:RWallS.rep w [v] x fp) (hn:fp.Nodup) (hf:∀ b ∈ fp,Free w b) (h0:0<=k) (h1:k+cnWallS x<=1073741824) :
  Calls Tryz.prog 56 #[v,.int .i64 k] w (Post (MarkPost RWallS [v] (mkWallS x k) fp (k+cnWallS x) w)):=by
 obtain ⟨ad,c,hv,hlc,hm,hh⟩:=hx
 injection hv with hv
 subst hv
 unfold maxLen at hm
 rcases hh with ⟨rfl,rfl⟩|⟨b,off,fps,hl,rfl,rfl,he⟩
 ·go_enter Tryz.func56,Tryz.ntmps56
  go_wp2
  go_loopw [1,5] (fun kk i wr=>i=.int .i64 0/\kk=.int .i64 k/\wr=w) (fun _ _ _=>0)
  case atStart=>exact ⟨rfl,rfl,rfl⟩
  case round =>
   obtain ⟨rfl,rfl,rfl⟩:=hrel
   go_wp2
   go_ret
   exact ⟨_,rfl,congrArg (Value.int .i64) (by simp [cnWallS]),⟨ad,c,rfl,hlc,by unfold maxLen; omega,.inl ⟨rfl,rfl⟩⟩,Upto.refl _ _⟩
 have HN:=Lib.hid hn; have HF:=Lib.hid hf; have HE:=Lib.hid he; have HL:=Lib.hid hl; clear hn hf he hl
 go_enter Tryz.func56,Tryz.ntmps56
 go_wp2
 go_loopw [1,5] (fun kk i wr=>∃ j:Nat,j<=x.length/\i=.int .i64 j/\kk=.int .i64 (k+(cnWallS (x.take j):Nat))/\Elems RWall wr b off (mkWallS (x.take j) k++x.drop j) fps/\Upto (b :: fps.flatten) w wr) (fun _ i _=>x.length - (intOf i).toNat)
 case atStart=>exact ⟨0,Nat.zero_le _,rfl,congrArg (Value.int .i64) (by simp [cnWallS]),by simpa [mkWallS] using HE.out,Upto.refl _ _⟩
 case round =>
  obtain ⟨j,hj,rfl,rfl,hE,hU⟩:=hrel
  have HEr:=Lib.hid hE; have HU:=Lib.hid hU; clear hE hU
  by_cases hjl:j < x.length
  rotate_left
  ·obtain rfl:j=x.length:=by omega
   go_wp2
   go_ret
   have h:=HEr.out
   rw [List.take_length,List.drop_length,List.append_nil] at h
   have hml:=mkWallS_len x k
   exact ⟨_,rfl,congrArg (Value.int .i64) (by rw [List.take_length]),⟨_,c,by rw [hml],by rw [hml]; exact hlc,by unfold maxLen; omega,.inr ⟨b,off,fps,fun e=>HL.out (List.eq_nil_of_length_eq_zero (by rw [<-hml,e]; rfl)),rfl,rfl,h⟩⟩,HU.out⟩
  have hml:(mkWallS (x.take j) k).length=j:=by rw [mkWallS_len,List.length_take]; omega
  have hget:(mkWallS (x.take j) k++x.drop j)[j]? = some x[j]:=by rw [List.getElem?_append_right (by omega),hml]; simp
  obtain ⟨f,cs,hfj,hr,hcs⟩:=HEr.out.2 j _ hget
  have hfr:=HU.out.free b List.mem_cons_self (HF.out b List.mem_cons_self)
  have hbf:b ∉ f:=fun h=>(List.nodup_cons.1 HN.out).1 (flat_mem hfj b h)
  have hff:∀ z ∈ f,Free wr z:=fun z hz=>HU.out.free z (List.mem_cons_of_mem _ (flat_mem hfj z hz)) (HF.out z (List.mem_cons_of_mem _ (flat_mem hfj z hz)))
  have hfn:f.Nodup:=(List.pairwise_flatten.1 (List.nodup_cons.1 HN.out).2).1 f (List.mem_of_getElem? hfj)
  have hec:cnWallS (x.take j)+ecWall x[j]=cnWallS (x.take (j+1)):=by rw [List.take_succ_eq_append_getElem hjl,cnWallS_snoc]
  have hect:=cnWallS_take x (j+1)
  obtain ⟨q,hq⟩:∃ q:Int,q=k+(cnWallS (x.take j):Nat):=⟨_,rfl⟩
  have hq0:0<=q:=by omega
  have hq1:q+(ecWall x[j]:Nat)<=1073741824:=by omega
  rw [<-hq]
  have HQ:=Lib.hid hq; have HEC:=Lib.hid hec; have HML:=Lib.hid hml; have HFJ:=Lib.hid hfj
  clear hq hec hml hget hfj hect
  obtain ⟨c0,c1,c2,c3,c4,c5,c6,c7,c8,rfl⟩:=list9 (RWall.len hr)
  obtain ⟨f0,f1,rfl,hp0,hp1⟩:=rep_split [c0,c1,c2] [c3,c4,c5,c6,c7,c8] rfl hr
  obtain ⟨f2,f3,rfl,hp2,hp3⟩:=rep_split [c3,c4,c5] [c6,c7,c8] rfl hp1
  obtain ⟨f4,f5,rfl,hp4,hp5⟩:=rep_split [c0,c1] [c2] rfl hp0
  obtain ⟨f6,f7,rfl,hp6,hp7⟩:=rep_split [c0] [c1] rfl hp4
  obtain ⟨f8,f9,rfl,hp8,hp9⟩:=rep_split [c3,c4] [c5] rfl hp2
  obtain ⟨f10,f11,rfl,hp10,hp11⟩:=rep_split [c3] [c4] rfl hp8
  obtain ⟨f12,f13,rfl,hp12,hp13⟩:=rep_split [c6,c7] [c8] rfl hp3
  obtain ⟨f14,f15,rfl,hp14,hp15⟩:=rep_split [c6] [c7] rfl hp12
  obtain ⟨he0,rfl⟩:=hp6
  injection he0 with he0; subst he0
  obtain ⟨he3,rfl⟩:=hp10
  injection he3 with he3; subst he3
  obtain ⟨he6,rfl⟩:=hp14
  injection he6 with he6; subst he6
  have hnd:=hfn
  simp only [List.nil_append,List.append_assoc] at hnd
  have HFF:=Lib.hid hff; have HBF:=Lib.hid hbf; clear hff hbf hfn
  obtain ⟨nd0,hnd0,dd0,de0⟩:=nodup_app hnd
  obtain ⟨nd1,hnd1,dd1,de1⟩:=nodup_app hnd0
  obtain ⟨nd2,hnd2,dd2,de2⟩:=nodup_app hnd1
  obtain ⟨nd3,hnd3,dd3,de3⟩:=nodup_app hnd2
  obtain ⟨nd4,nd5,dd4,de4⟩:=nodup_app hnd3
  have hm0:∀ z ∈ f7,z ∈ ((([]++f7)++f5)++((([]++f11)++f9)++(([]++f15)++f13))):=fun z hz=>(List.mem_append.2 (.inl (List.mem_append.2 (.inl (List.mem_append.2 (.inr hz))))))
  have nb0:b ∉ f7:=fun h=>HBF.out (hm0 b h)
  have LP0_0:=Lib.hid hp7; have FR0_0:=Lib.hid (fun (z:Nat) (hz:z ∈ f7)=>HFF.out z (hm0 z hz)); clear hp7
  have hl0:(0:Int)<=(x[j].1.1.2.length:Nat):=Int.natCast_nonneg _
  have hm1:∀ z ∈ f5,z ∈ ((([]++f7)++f5)++((([]++f11)++f9)++(([]++f15)++f13))):=fun z hz=>(List.mem_append.2 (.inl (List.mem_append.2 (.inr hz))))
  have nb1:b ∉ f5:=fun h=>HBF.out (hm1 b h)
  have LP1_0:=Lib.hid hp5; have FR1_0:=Lib.hid (fun (z:Nat) (hz:z ∈ f5)=>HFF.out z (hm1 z hz)); clear hp5
  have hl1:(0:Int)<=(x[j].1.2.length:Nat):=Int.natCast_nonneg _
  have hm2:∀ z ∈ f11,z ∈ ((([]++f7)++f5)++((([]++f11)++f9)++(([]++f15)++f13))):=fun z hz=>(List.mem_append.2 (.inr (List.mem_append.2 (.inl (List.mem_append.2 (.inl (List.mem_append.2 (.inr hz))))))))
  have nb2:b ∉ f11:=fun h=>HBF.out (hm2 b h)
  have LP2_0:=Lib.hid hp11; have FR2_0:=Lib.hid (fun (z:Nat) (hz:z ∈ f11)=>HFF.out z (hm2 z hz)); clear hp11
  have hl2:(0:Int)<=(x[j].2.1.1.2.length:Nat):=Int.natCast_nonneg _
  have hm3:∀ z ∈ f9,z ∈ ((([]++f7)++f5)++((([]++f11)++f9)++(([]++f15)++f13))):=fun z hz=>(List.mem_append.2 (.inr (List.mem_append.2 (.inl (List.mem_append.2 (.inr hz))))))
  have nb3:b ∉ f9:=fun h=>HBF.out (hm3 b h)
  have LP3_0:=Lib.hid hp9; have FR3_0:=Lib.hid (fun (z:Nat) (hz:z ∈ f9)=>HFF.out z (hm3 z hz)); clear hp9
  have hl3:(0:Int)<=(x[j].2.1.2.length:Nat):=Int.natCast_nonneg _
  have hm4:∀ z ∈ f15,z ∈ ((([]++f7)++f5)++((([]++f11)++f9)++(([]++f15)++f13))):=fun z hz=>(List.mem_append.2 (.inr (List.mem_append.2 (.inr (List.mem_append.2 (.inl (List.mem_append.2 (.inr hz))))))))
  have nb4:b ∉ f15:=fun h=>HBF.out (hm4 b h)
  have LP4_0:=Lib.hid hp15; have FR4_0:=Lib.hid (fun (z:Nat) (hz:z ∈ f15)=>HFF.out z (hm4 z hz)); clear hp15
  have hl4:(0:Int)<=(x[j].2.2.1.2.length:Nat):=Int.natCast_nonneg _
  have hm5:∀ z ∈ f13,z ∈ ((([]++f7)++f5)++((([]++f11)++f9)++(([]++f15)++f13))):=fun z hz=>(List.mem_append.2 (.inr (List.mem_append.2 (.inr (List.mem_append.2 (.inr hz))))))
  have nb5:b ∉ f13:=fun h=>HBF.out (hm5 b h)
  have LP5_0:=Lib.hid hp13; have FR5_0:=Lib.hid (fun (z:Nat) (hz:z ∈ f13)=>HFF.out z (hm5 z hz)); clear hp13
  have hl5:(0:Int)<=(x[j].2.2.2.length:Nat):=Int.natCast_nonneg _
  have hqe:=hq1; simp only [ecWall,ecRat,ecBigInt] at hqe
  have hbl0:b < wr.heap.size:=hfr.lt
  have g0:wr.cell? ⟨b,off+j * 9,none⟩=some (Value.bool x[j].1.1.1):=hcs 0 _ rfl
  have g1:wr.cell? ⟨b,off+j * 9+1,none⟩=some c1:=hcs 1 _ rfl
  have g2:wr.cell? ⟨b,off+j * 9+2,none⟩=some c2:=hcs 2 _ rfl
  have g3:wr.cell? ⟨b,off+j * 9+3,none⟩=some (Value.bool x[j].2.1.1.1):=hcs 3 _ rfl
  have g4:wr.cell? ⟨b,off+j * 9+4,none⟩=some c4:=hcs 4 _ rfl
  have g5:wr.cell? ⟨b,off+j * 9+5,none⟩=some c5:=hcs 5 _ rfl
  have g6:wr.cell? ⟨b,off+j * 9+6,none⟩=some (Value.bool x[j].2.2.1.1):=hcs 6 _ rfl
  have g7:wr.cell? ⟨b,off+j * 9+7,none⟩=some c7:=hcs 7 _ rfl
  have g8:wr.cell? ⟨b,off+j * 9+8,none⟩=some c8:=hcs 8 _ rfl
  have hfz:=hfr.frozen
  have HT0:=Lib.hid (Upto.refl (b :: ((([]++f7)++f5)++((([]++f11)++f9)++(([]++f15)++f13)))) wr)
  clear hcs hfr
  go_wp2_with fail
  have hB0:Upto [b] wr _:=((Upto.refl [b] wr).setCell (p:=⟨b,off+j * 9,none⟩) List.mem_cons_self (Value.bool ((q) % 3 == 0)))
  refine (markIntS_any _ _ _ f7 _ (Rp.upto LP0_0.out hB0 (fun z hz hb=>nb0 (List.mem_singleton.1 hb ▸ hz))) nd0 (fun z hz=>((FR0_0.out z hz).setCell _ _)) (by omega) (by omega)).mono ?_
  rintro e w1 ⟨v,rfl,rfl,hmm,hu1⟩
  have hbl1:b < w1.heap.size:=Nat.lt_of_lt_of_le (by simpa using hbl0) hu1.size
  have hcb1:=hu1.cell (b:=b) (by simpa using hbl0) nb0
  have hfb1:=hu1.frozen (b:=b) (by simpa using hbl0) nb0
  have HT1:=Lib.hid ((HT0.out.setCell (p:=⟨b,off+j * 9,none⟩) List.mem_cons_self (Value.bool ((q) % 3 == 0))).trans (hu1.mono fun z hz=>List.mem_cons_of_mem _ (hm0 z hz))); clear HT0
  have HO1:=Lib.hid (fun (o:Nat) (ho:o < off+j * 9\/off+j * 9+9<=o)=>(hcb1 o).trans ((setCell_out (Value.bool ((q) % 3 == 0)) (by omega)).trans rfl));
  have LP0_1:=Lib.hid hmm; clear hmm LP0_0
  have LP1_1:=Lib.hid (Rp.upto (Rp.upto LP1_0.out hB0 (fun z hz hb=>nb1 (List.mem_singleton.1 hb ▸ hz))) hu1 (fun z hz hy=>dd0 z hy (List.mem_append.2 (.inl hz)))); clear LP1_0
  have FR1_1:=Lib.hid (fun (z:Nat) (hz:z ∈ f5)=>(((FR1_0.out z hz).setCell _ _)).frame (hu1.block z (Free.lt ((FR1_0.out z hz).setCell _ _)) ((fun z hz hy=>dd0 z hy (List.mem_append.2 (.inl hz))) z hz))); clear FR1_0
  have LP2_1:=Lib.hid (Rp.upto (Rp.upto LP2_0.out hB0 (fun z hz hb=>nb2 (List.mem_singleton.1 hb ▸ hz))) hu1 (fun z hz hy=>dd0 z hy (List.mem_append.2 (.inr (List.mem_append.2 (.inl hz)))))); clear LP2_0
  have FR2_1:=Lib.hid (fun (z:Nat) (hz:z ∈ f11)=>(((FR2_0.out z hz).setCell _ _)).frame (hu1.block z (Free.lt ((FR2_0.out z hz).setCell _ _)) ((fun z hz hy=>dd0 z hy (List.mem_append.2 (.inr (List.mem_append.2 (.inl hz))))) z hz))); clear FR2_0
  have LP3_1:=Lib.hid (Rp.upto (Rp.upto LP3_0.out hB0 (fun z hz hb=>nb3 (List.mem_singleton.1 hb ▸ hz))) hu1 (fun z hz hy=>dd0 z hy (List.mem_append.2 (.inr (List.mem_append.2 (.inr (List.mem_append.2 (.inl hz)))))))); clear LP3_0
  have FR3_1:=Lib.hid (fun (z:Nat) (hz:z ∈ f9)=>(((FR3_0.out z hz).setCell _ _)).frame (hu1.block z (Free.lt ((FR3_0.out z hz).setCell _ _)) ((fun z hz hy=>dd0 z hy (List.mem_append.2 (.inr (List.mem_append.2 (.inr (List.mem_append.2 (.inl hz))))))) z hz))); clear FR3_0
  have LP4_1:=Lib.hid (Rp.upto (Rp.upto LP4_0.out hB0 (fun z hz hb=>nb4 (List.mem_singleton.1 hb ▸ hz))) hu1 (fun z hz hy=>dd0 z hy (List.mem_append.2 (.inr (List.mem_append.2 (.inr (List.mem_append.2 (.inr (List.mem_append.2 (.inl hz)))))))))); clear LP4_0
  have FR4_1:=Lib.hid (fun (z:Nat) (hz:z ∈ f15)=>(((FR4_0.out z hz).setCell _ _)).frame (hu1.block z (Free.lt ((FR4_0.out z hz).setCell _ _)) ((fun z hz hy=>dd0 z hy (List.mem_append.2 (.inr (List.mem_append.2 (.inr (List.mem_append.2 (.inr (List.mem_append.2 (.inl hz))))))))) z hz))); clear FR4_0
  have LP5_1:=Lib.hid (Rp.upto (Rp.upto LP5_0.out hB0 (fun z hz hb=>nb5 (List.mem_singleton.1 hb ▸ hz))) hu1 (fun z hz hy=>dd0 z hy (List.mem_append.2 (.inr (List.mem_append.2 (.inr (List.mem_append.2 (.inr (List.mem_append.2 (.inr (hz))))))))))); clear LP5_0
  have FR5_1:=Lib.hid (fun (z:Nat) (hz:z ∈ f13)=>(((FR5_0.out z hz).setCell _ _)).frame (hu1.block z (Free.lt ((FR5_0.out z hz).setCell _ _)) ((fun z hz hy=>dd0 z hy (List.mem_append.2 (.inr (List.mem_append.2 (.inr (List.mem_append.2 (.inr (List.mem_append.2 (.inr (hz)))))))))) z hz))); clear FR5_0
  clear hu1 hB0 FR0_0
  go_wp2_with fail
  have hB1:Upto [b] w1 _:=(Upto.refl [b] w1)
  refine (markIntS_any _ _ _ f5 _ (Rp.upto LP1_1.out hB1 (fun z hz hb=>nb1 (List.mem_singleton.1 hb ▸ hz))) nd1 (fun z hz=>(FR1_1.out z hz)) (by omega) (by omega)).mono ?_
  rintro e w2 ⟨v,rfl,rfl,hmm,hu2⟩
  have hbl2:b < w2.heap.size:=Nat.lt_of_lt_of_le (by simpa using hbl1) hu2.size
  have hcb2:=hu2.cell (b:=b) (by simpa using hbl1) nb1
  have hfb2:=hu2.frozen (b:=b) (by simpa using hbl1) nb1
  have HT2:=Lib.hid (HT1.out.trans (hu2.mono fun z hz=>List.mem_cons_of_mem _ (hm1 z hz))); clear HT1
  have HO2:=Lib.hid (fun (o:Nat) (ho:o < off+j * 9\/off+j * 9+9<=o)=>(hcb2 o).trans (HO1.out o ho)); clear HO1
  have LP0_2:=Lib.hid (Rp.upto (Rp.upto LP0_1.out hB1 (fun z hz hb=>nb0 (List.mem_singleton.1 hb ▸ hz))) hu2 (fun z hy hz=>dd0 z hy (List.mem_append.2 (.inl hz)))); clear LP0_1
  have LP1_2:=Lib.hid hmm; clear hmm LP1_1
  have LP2_2:=Lib.hid (Rp.upto (Rp.upto LP2_1.out hB1 (fun z hz hb=>nb2 (List.mem_singleton.1 hb ▸ hz))) hu2 (fun z hz hy=>dd1 z hy (List.mem_append.2 (.inl hz)))); clear LP2_1
  have FR2_2:=Lib.hid (fun (z:Nat) (hz:z ∈ f11)=>((FR2_1.out z hz)).frame (hu2.block z (Free.lt (FR2_1.out z hz)) ((fun z hz hy=>dd1 z hy (List.mem_append.2 (.inl hz))) z hz))); clear FR2_1
  have LP3_2:=Lib.hid (Rp.upto (Rp.upto LP3_1.out hB1 (fun z hz hb=>nb3 (List.mem_singleton.1 hb ▸ hz))) hu2 (fun z hz hy=>dd1 z hy (List.mem_append.2 (.inr (List.mem_append.2 (.inl hz)))))); clear LP3_1
  have FR3_2:=Lib.hid (fun (z:Nat) (hz:z ∈ f9)=>((FR3_1.out z hz)).frame (hu2.block z (Free.lt (FR3_1.out z hz)) ((fun z hz hy=>dd1 z hy (List.mem_append.2 (.inr (List.mem_append.2 (.inl hz))))) z hz))); clear FR3_1
  have LP4_2:=Lib.hid (Rp.upto (Rp.upto LP4_1.out hB1 (fun z hz hb=>nb4 (List.mem_singleton.1 hb ▸ hz))) hu2 (fun z hz hy=>dd1 z hy (List.mem_append.2 (.inr (List.mem_append.2 (.inr (List.mem_append.2 (.inl hz)))))))); clear LP4_1
  have FR4_2:=Lib.hid (fun (z:Nat) (hz:z ∈ f15)=>((FR4_1.out z hz)).frame (hu2.block z (Free.lt (FR4_1.out z hz)) ((fun z hz hy=>dd1 z hy (List.mem_append.2 (.inr (List.mem_append.2 (.inr (List.mem_append.2 (.inl hz))))))) z hz))); clear FR4_1
  have LP5_2:=Lib.hid (Rp.upto (Rp.upto LP5_1.out hB1 (fun z hz hb=>nb5 (List.mem_singleton.1 hb ▸ hz))) hu2 (fun z hz hy=>dd1 z hy (List.mem_append.2 (.inr (List.mem_append.2 (.inr (List.mem_append.2 (.inr (hz))))))))); clear LP5_1
  have FR5_2:=Lib.hid (fun (z:Nat) (hz:z ∈ f13)=>((FR5_1.out z hz)).frame (hu2.block z (Free.lt (FR5_1.out z hz)) ((fun z hz hy=>dd1 z hy (List.mem_append.2 (.inr (List.mem_append.2 (.inr (List.mem_append.2 (.inr (hz)))))))) z hz))); clear FR5_1
  clear hu2 hB1 FR1_1
  go_wp2_with fail
  have hB2:Upto [b] w2 _:=((Upto.refl [b] w2).setCell (p:=⟨b,off+j * 9+3,none⟩) List.mem_cons_self (Value.bool ((q+1+(x[j].1.1.2.length:Nat)+(x[j].1.2.length:Nat)) % 3 == 0)))
  refine (markIntS_any _ _ _ f11 _ (Rp.upto LP2_2.out hB2 (fun z hz hb=>nb2 (List.mem_singleton.1 hb ▸ hz))) nd2 (fun z hz=>((FR2_2.out z hz).setCell _ _)) (by omega) (by omega)).mono ?_
  rintro e w3 ⟨v,rfl,rfl,hmm,hu3⟩
  have hbl3:b < w3.heap.size:=Nat.lt_of_lt_of_le (by simpa using hbl2) hu3.size
  have hcb3:=hu3.cell (b:=b) (by simpa using hbl2) nb2
  have hfb3:=hu3.frozen (b:=b) (by simpa using hbl2) nb2
  have HT3:=Lib.hid ((HT2.out.setCell (p:=⟨b,off+j * 9+3,none⟩) List.mem_cons_self (Value.bool ((q+1+(x[j].1.1.2.length:Nat)+(x[j].1.2.length:Nat)) % 3 == 0))).trans (hu3.mono fun z hz=>List.mem_cons_of_mem _ (hm2 z hz))); clear HT2
  have HO3:=Lib.hid (fun (o:Nat) (ho:o < off+j * 9\/off+j * 9+9<=o)=>(hcb3 o).trans ((setCell_out (Value.bool ((q+1+(x[j].1.1.2.length:Nat)+(x[j].1.2.length:Nat)) % 3 == 0)) (by omega)).trans (HO2.out o ho))); clear HO2
  have LP0_3:=Lib.hid (Rp.upto (Rp.upto LP0_2.out hB2 (fun z hz hb=>nb0 (List.mem_singleton.1 hb ▸ hz))) hu3 (fun z hy hz=>dd0 z hy (List.mem_append.2 (.inr (List.mem_append.2 (.inl hz)))))); clear LP0_2
  have LP1_3:=Lib.hid (Rp.upto (Rp.upto LP1_2.out hB2 (fun z hz hb=>nb1 (List.mem_singleton.1 hb ▸ hz))) hu3 (fun z hy hz=>dd1 z hy (List.mem_append.2 (.inl hz)))); clear LP1_2
  have LP2_3:=Lib.hid hmm; clear hmm LP2_2
  have LP3_3:=Lib.hid (Rp.upto (Rp.upto LP3_2.out hB2 (fun z hz hb=>nb3 (List.mem_singleton.1 hb ▸ hz))) hu3 (fun z hz hy=>dd2 z hy (List.mem_append.2 (.inl hz)))); clear LP3_2
  have FR3_3:=Lib.hid (fun (z:Nat) (hz:z ∈ f9)=>(((FR3_2.out z hz).setCell _ _)).frame (hu3.block z (Free.lt ((FR3_2.out z hz).setCell _ _)) ((fun z hz hy=>dd2 z hy (List.mem_append.2 (.inl hz))) z hz))); clear FR3_2
  have LP4_3:=Lib.hid (Rp.upto (Rp.upto LP4_2.out hB2 (fun z hz hb=>nb4 (List.mem_singleton.1 hb ▸ hz))) hu3 (fun z hz hy=>dd2 z hy (List.mem_append.2 (.inr (List.mem_append.2 (.inl hz)))))); clear LP4_2
  have FR4_3:=Lib.hid (fun (z:Nat) (hz:z ∈ f15)=>(((FR4_2.out z hz).setCell _ _)).frame (hu3.block z (Free.lt ((FR4_2.out z hz).setCell _ _)) ((fun z hz hy=>dd2 z hy (List.mem_append.2 (.inr (List.mem_append.2 (.inl hz))))) z hz))); clear FR4_2
  have LP5_3:=Lib.hid (Rp.upto (Rp.upto LP5_2.out hB2 (fun z hz hb=>nb5 (List.mem_singleton.1 hb ▸ hz))) hu3 (fun z hz hy=>dd2 z hy (List.mem_append.2 (.inr (List.mem_append.2 (.inr (hz))))))); clear LP5_2
  have FR5_3:=Lib.hid (fun (z:Nat) (hz:z ∈ f13)=>(((FR5_2.out z hz).setCell _ _)).frame (hu3.block z (Free.lt ((FR5_2.out z hz).setCell _ _)) ((fun z hz hy=>dd2 z hy (List.mem_append.2 (.inr (List.mem_append.2 (.inr (hz)))))) z hz))); clear FR5_2
  clear hu3 hB2 FR2_2
  go_wp2_with fail
  have hB3:Upto [b] w3 _:=(Upto.refl [b] w3)
  refine (markIntS_any _ _ _ f9 _ (Rp.upto LP3_3.out hB3 (fun z hz hb=>nb3 (List.mem_singleton.1 hb ▸ hz))) nd3 (fun z hz=>(FR3_3.out z hz)) (by omega) (by omega)).mono ?_
  rintro e w4 ⟨v,rfl,rfl,hmm,hu4⟩
  have hbl4:b < w4.heap.size:=Nat.lt_of_lt_of_le (by simpa using hbl3) hu4.size
  have hcb4:=hu4.cell (b:=b) (by simpa using hbl3) nb3
  have hfb4:=hu4.frozen (b:=b) (by simpa using hbl3) nb3
  have HT4:=Lib.hid (HT3.out.trans (hu4.mono fun z hz=>List.mem_cons_of_mem _ (hm3 z hz))); clear HT3
  have HO4:=Lib.hid (fun (o:Nat) (ho:o < off+j * 9\/off+j * 9+9<=o)=>(hcb4 o).trans (HO3.out o ho)); clear HO3
  have LP0_4:=Lib.hid (Rp.upto (Rp.upto LP0_3.out hB3 (fun z hz hb=>nb0 (List.mem_singleton.1 hb ▸ hz))) hu4 (fun z hy hz=>dd0 z hy (List.mem_append.2 (.inr (List.mem_append.2 (.inr (List.mem_append.2 (.inl hz)))))))); clear LP0_3
  have LP1_4:=Lib.hid (Rp.upto (Rp.upto LP1_3.out hB3 (fun z hz hb=>nb1 (List.mem_singleton.1 hb ▸ hz))) hu4 (fun z hy hz=>dd1 z hy (List.mem_append.2 (.inr (List.mem_append.2 (.inl hz)))))); clear LP1_3
  have LP2_4:=Lib.hid (Rp.upto (Rp.upto LP2_3.out hB3 (fun z hz hb=>nb2 (List.mem_singleton.1 hb ▸ hz))) hu4 (fun z hy hz=>dd2 z hy (List.mem_append.2 (.inl hz)))); clear LP2_3
  have LP3_4:=Lib.hid hmm; clear hmm LP3_3
  have LP4_4:=Lib.hid (Rp.upto (Rp.upto LP4_3.out hB3 (fun z hz hb=>nb4 (List.mem_singleton.1 hb ▸ hz))) hu4 (fun z hz hy=>dd3 z hy (List.mem_append.2 (.inl hz)))); clear LP4_3
  have FR4_4:=Lib.hid (fun (z:Nat) (hz:z ∈ f15)=>((FR4_3.out z hz)).frame (hu4.block z (Free.lt (FR4_3.out z hz)) ((fun z hz hy=>dd3 z hy (List.mem_append.2 (.inl hz))) z hz))); clear FR4_3
  have LP5_4:=Lib.hid (Rp.upto (Rp.upto LP5_3.out hB3 (fun z hz hb=>nb5 (List.mem_singleton.1 hb ▸ hz))) hu4 (fun z hz hy=>dd3 z hy (List.mem_append.2 (.inr (hz))))); clear LP5_3
  have FR5_4:=Lib.hid (fun (z:Nat) (hz:z ∈ f13)=>((FR5_3.out z hz)).frame (hu4.block z (Free.lt (FR5_3.out z hz)) ((fun z hz hy=>dd3 z hy (List.mem_append.2 (.inr (hz)))) z hz))); clear FR5_3
  clear hu4 hB3 FR3_3
  go_wp2_with fail
  have hB4:Upto [b] w4 _:=((Upto.refl [b] w4).setCell (p:=⟨b,off+j * 9+6,none⟩) List.mem_cons_self (Value.bool ((q+1+(x[j].1.1.2.length:Nat)+(x[j].1.2.length:Nat)+1+(x[j].2.1.1.2.length:Nat)+(x[j].2.1.2.length:Nat)) % 3 == 0)))
  refine (markIntS_any _ _ _ f15 _ (Rp.upto LP4_4.out hB4 (fun z hz hb=>nb4 (List.mem_singleton.1 hb ▸ hz))) nd4 (fun z hz=>((FR4_4.out z hz).setCell _ _)) (by omega) (by omega)).mono ?_
  rintro e w5 ⟨v,rfl,rfl,hmm,hu5⟩
  have hbl5:b < w5.heap.size:=Nat.lt_of_lt_of_le (by simpa using hbl4) hu5.size
  have hcb5:=hu5.cell (b:=b) (by simpa using hbl4) nb4
  have hfb5:=hu5.frozen (b:=b) (by simpa using hbl4) nb4
  have HT5:=Lib.hid ((HT4.out.setCell (p:=⟨b,off+j * 9+6,none⟩) List.mem_cons_self (Value.bool ((q+1+(x[j].1.1.2.length:Nat)+(x[j].1.2.length:Nat)+1+(x[j].2.1.1.2.length:Nat)+(x[j].2.1.2.length:Nat)) % 3 == 0))).trans (hu5.mono fun z hz=>List.mem_cons_of_mem _ (hm4 z hz))); clear HT4
  have HO5:=Lib.hid (fun (o:Nat) (ho:o < off+j * 9\/off+j * 9+9<=o)=>(hcb5 o).trans ((setCell_out (Value.bool ((q+1+(x[j].1.1.2.length:Nat)+(x[j].1.2.length:Nat)+1+(x[j].2.1.1.2.length:Nat)+(x[j].2.1.2.length:Nat)) % 3 == 0)) (by omega)).trans (HO4.out o ho))); clear HO4
  have LP0_5:=Lib.hid (Rp.upto (Rp.upto LP0_4.out hB4 (fun z hz hb=>nb0 (List.mem_singleton.1 hb ▸ hz))) hu5 (fun z hy hz=>dd0 z hy (List.mem_append.2 (.inr (List.mem_append.2 (.inr (List.mem_append.2 (.inr (List.mem_append.2 (.inl hz)))))))))); clear LP0_4
  have LP1_5:=Lib.hid (Rp.upto (Rp.upto LP1_4.out hB4 (fun z hz hb=>nb1 (List.mem_singleton.1 hb ▸ hz))) hu5 (fun z hy hz=>dd1 z hy (List.mem_append.2 (.inr (List.mem_append.2 (.inr (List.mem_append.2 (.inl hz)))))))); clear LP1_4
  have LP2_5:=Lib.hid (Rp.upto (Rp.upto LP2_4.out hB4 (fun z hz hb=>nb2 (List.mem_singleton.1 hb ▸ hz))) hu5 (fun z hy hz=>dd2 z hy (List.mem_append.2 (.inr (List.mem_append.2 (.inl hz)))))); clear LP2_4
  have LP3_5:=Lib.hid (Rp.upto (Rp.upto LP3_4.out hB4 (fun z hz hb=>nb3 (List.mem_singleton.1 hb ▸ hz))) hu5 (fun z hy hz=>dd3 z hy (List.mem_append.2 (.inl hz)))); clear LP3_4
  have LP4_5:=Lib.hid hmm; clear hmm LP4_4
  have LP5_5:=Lib.hid (Rp.upto (Rp.upto LP5_4.out hB4 (fun z hz hb=>nb5 (List.mem_singleton.1 hb ▸ hz))) hu5 (fun z hz hy=>dd4 z hy (hz))); clear LP5_4
  have FR5_5:=Lib.hid (fun (z:Nat) (hz:z ∈ f13)=>(((FR5_4.out z hz).setCell _ _)).frame (hu5.block z (Free.lt ((FR5_4.out z hz).setCell _ _)) ((fun z hz hy=>dd4 z hy (hz)) z hz))); clear FR5_4
  clear hu5 hB4 FR4_4
  go_wp2_with fail
  have hB5:Upto [b] w5 _:=(Upto.refl [b] w5)
  refine (markIntS_any _ _ _ f13 _ (Rp.upto LP5_5.out hB5 (fun z hz hb=>nb5 (List.mem_singleton.1 hb ▸ hz))) nd5 (fun z hz=>(FR5_5.out z hz)) (by omega) (by omega)).mono ?_
  rintro e w6 ⟨v,rfl,rfl,hmm,hu6⟩
  have hbl6:b < w6.heap.size:=Nat.lt_of_lt_of_le (by simpa using hbl5) hu6.size
  have hcb6:=hu6.cell (b:=b) (by simpa using hbl5) nb5
  have hfb6:=hu6.frozen (b:=b) (by simpa using hbl5) nb5
  have HT6:=Lib.hid (HT5.out.trans (hu6.mono fun z hz=>List.mem_cons_of_mem _ (hm5 z hz))); clear HT5
  have HO6:=Lib.hid (fun (o:Nat) (ho:o < off+j * 9\/off+j * 9+9<=o)=>(hcb6 o).trans (HO5.out o ho)); clear HO5
  have LP0_6:=Lib.hid (Rp.upto (Rp.upto LP0_5.out hB5 (fun z hz hb=>nb0 (List.mem_singleton.1 hb ▸ hz))) hu6 (fun z hy hz=>dd0 z hy (List.mem_append.2 (.inr (List.mem_append.2 (.inr (List.mem_append.2 (.inr (List.mem_append.2 (.inr (hz))))))))))); clear LP0_5
  have LP1_6:=Lib.hid (Rp.upto (Rp.upto LP1_5.out hB5 (fun z hz hb=>nb1 (List.mem_singleton.1 hb ▸ hz))) hu6 (fun z hy hz=>dd1 z hy (List.mem_append.2 (.inr (List.mem_append.2 (.inr (List.mem_append.2 (.inr (hz))))))))); clear LP1_5
  have LP2_6:=Lib.hid (Rp.upto (Rp.upto LP2_5.out hB5 (fun z hz hb=>nb2 (List.mem_singleton.1 hb ▸ hz))) hu6 (fun z hy hz=>dd2 z hy (List.mem_append.2 (.inr (List.mem_append.2 (.inr (hz))))))); clear LP2_5
  have LP3_6:=Lib.hid (Rp.upto (Rp.upto LP3_5.out hB5 (fun z hz hb=>nb3 (List.mem_singleton.1 hb ▸ hz))) hu6 (fun z hy hz=>dd3 z hy (List.mem_append.2 (.inr (hz))))); clear LP3_5
  have LP4_6:=Lib.hid (Rp.upto (Rp.upto LP4_5.out hB5 (fun z hz hb=>nb4 (List.mem_singleton.1 hb ▸ hz))) hu6 (fun z hy hz=>dd4 z hy (hz))); clear LP4_5
  have LP5_6:=Lib.hid hmm; clear hmm LP5_5
  clear hu6 hB5 FR5_5
  go_wp2
  go_roundw
  case rel =>
   have e0:w6.cell? ⟨b,off+j * 9,none⟩=some (Value.bool ((q) % 3 == 0)):=by simp [go_sem,hcb1,hcb2,hcb3,hcb4,hcb5,hcb6,g0]
   have e1:w6.cell? ⟨b,off+j * 9+1,none⟩=some c1:=by simp [go_sem,hcb1,hcb2,hcb3,hcb4,hcb5,hcb6,g1]
   have e2:w6.cell? ⟨b,off+j * 9+2,none⟩=some c2:=by simp [go_sem,hcb1,hcb2,hcb3,hcb4,hcb5,hcb6,g2]
   have e3:w6.cell? ⟨b,off+j * 9+3,none⟩=some (Value.bool ((q+1+(x[j].1.1.2.length:Nat)+(x[j].1.2.length:Nat)) % 3 == 0)):=by simp [go_sem,hcb1,hcb2,hcb3,hcb4,hcb5,hcb6,g3]
   have e4:w6.cell? ⟨b,off+j * 9+4,none⟩=some c4:=by simp [go_sem,hcb1,hcb2,hcb3,hcb4,hcb5,hcb6,g4]
   have e5:w6.cell? ⟨b,off+j * 9+5,none⟩=some c5:=by simp [go_sem,hcb1,hcb2,hcb3,hcb4,hcb5,hcb6,g5]
   have e6:w6.cell? ⟨b,off+j * 9+6,none⟩=some (Value.bool ((q+1+(x[j].1.1.2.length:Nat)+(x[j].1.2.length:Nat)+1+(x[j].2.1.1.2.length:Nat)+(x[j].2.1.2.length:Nat)) % 3 == 0)):=by simp [go_sem,hcb1,hcb2,hcb3,hcb4,hcb5,hcb6,g6]
   have e7:w6.cell? ⟨b,off+j * 9+7,none⟩=some c7:=by simp [go_sem,hcb1,hcb2,hcb3,hcb4,hcb5,hcb6,g7]
   have e8:w6.cell? ⟨b,off+j * 9+8,none⟩=some c8:=by simp [go_sem,hcb1,hcb2,hcb3,hcb4,hcb5,hcb6,g8]
   have hup:=HEr.out.update (w':=w6) (x':=emWall x[j] q) (cs':=[(Value.bool ((q) % 3 == 0)),c1,c2,(Value.bool ((q+1+(x[j].1.1.2.length:Nat)+(x[j].1.2.length:Nat)) % 3 == 0)),c4,c5,(Value.bool ((q+1+(x[j].1.1.2.length:Nat)+(x[j].1.2.length:Nat)+1+(x[j].2.1.1.2.length:Nat)+(x[j].2.1.2.length:Nat)) % 3 == 0)),c7,c8]) HN.out HFJ.out (rep_pair (rep_pair (rep_pair (rep_bool [] (by first|rfl|(simp only [ecWall,ecRat,ecBigInt]; omega))) (rep_cast LP0_6.out (congrArg (mkIntS _) (by first|rfl|(simp only [ecWall,ecRat,ecBigInt]; omega))))) (rep_cast LP1_6.out (congrArg (mkIntS _) (by first|rfl|(simp only [ecWall,ecRat,ecBigInt]; omega))))) (rep_pair (rep_pair (rep_pair (rep_bool [] (by first|rfl|(simp only [ecWall,ecRat,ecBigInt]; omega))) (rep_cast LP2_6.out (congrArg (mkIntS _) (by first|rfl|(simp only [ecWall,ecRat,ecBigInt]; omega))))) (rep_cast LP3_6.out (congrArg (mkIntS _) (by first|rfl|(simp only [ecWall,ecRat,ecBigInt]; omega))))) (rep_pair (rep_pair (rep_bool [] (by first|rfl|(simp only [ecWall,ecRat,ecBigInt]; omega))) (rep_cast LP4_6.out (congrArg (mkIntS _) (by first|rfl|(simp only [ecWall,ecRat,ecBigInt]; omega))))) (rep_cast LP5_6.out (congrArg (mkIntS _) (by first|rfl|(simp only [ecWall,ecRat,ecBigInt]; omega))))))) (cells_cons e0 (cells_cons e1 (cells_cons e2 (cells_cons e3 (cells_cons e4 (cells_cons e5 (cells_cons e6 (cells_cons e7 (cells_cons e8 cells_nil)))))))))
    (fun z hz hzb hzf=>(HT6.out).block z hz (by rw [List.mem_cons]; exact fun h=>h.elim hzb hzf))
    (fun o ho=>have ho:o < off+j * 9\/off+j * 9+9<=o:=by have h1:(j+1) * 9=j * 9+9:=Nat.succ_mul _ _; have h2:o < off+j * 9\/off+(j+1) * 9<=o:=ho; omega
     (HO6.out o ho))
   have e:(mkWallS (x.take j) k++x.drop j).set j (emWall x[j] q)=mkWallS (x.take (j+1)) k++x.drop (j+1):=by
    rw [List.set_append_right _ _ (by rw [HML.out]; exact Nat.le_refl _),HML.out,Nat.sub_self,List.drop_eq_getElem_cons hjl,List.set_cons_zero,List.take_succ_eq_append_getElem hjl,mkWallS_snoc,<-HQ.out]
    simp
   rw [e] at hup
   refine ⟨j+1,by omega,by go_num,congrArg (Value.int .i64) ?_,hup,HU.out.trans ((HT6.out).mono ?_)⟩
   ·have h1:=HQ.out; have h2:=HEC.out; simp only [ecWall,ecRat,ecBigInt] at h2; omega
   ·intro z hz; rcases List.mem_cons.1 hz with rfl|hz; exact List.mem_cons_self; exact List.mem_cons_of_mem _ (flat_mem HFJ.out z hz)
  case measure=>simp [intOf]; omega
set_option maxHeartbeats 1000000 in
theorem markDoorS_any (v:Value) (x:DDoorS) (k:Int) (fp:List Nat) (w:World) (hx:RDoorS.rep w [v] x fp) (hn:fp.Nodup) (hf:∀ b ∈ fp,Free w b) (h0:0<=k) (h1:k+cnDoorS x<=1073741824) :
  Calls Tryz.prog 57 #[v,.int .i64 k] w (Post (MarkPost RDoorS [v] (mkDoorS x k) fp (k+cnDoorS x) w)):=by
 obtain ⟨ad,c,hv,hlc,hm,hh⟩:=hx
 injection hv with hv
 subst hv
 unfold maxLen at hm
 rcases hh with ⟨rfl,rfl⟩|⟨b,off,fps,hl,rfl,rfl,he⟩
 ·go_enter Tryz.func57,Tryz.ntmps57
  go_wp2
  go_loopw [1,5] (fun kk i wr=>i=.int .i64 0/\kk=.int .i64 k/\wr=w) (fun _ _ _=>0)
  case atStart=>exact ⟨rfl,rfl,rfl⟩
  case round =>
   obtain ⟨rfl,rfl,rfl⟩:=hrel
   go_wp2
   go_ret
   exact ⟨_,rfl,congrArg (Value.int .i64) (by simp [cnDoorS]),⟨ad,c,rfl,hlc,by unfold maxLen; omega,.inl ⟨rfl,rfl⟩⟩,Upto.refl _ _⟩
 have HN:=Lib.hid hn; have HF:=Lib.hid hf; have HE:=Lib.hid he; have HL:=Lib.hid hl; clear hn hf he hl
 go_enter Tryz.func57,Tryz.ntmps57
 go_wp2
 go_loopw [1,5] (fun kk i wr=>∃ j:Nat,j<=x.length/\i=.int .i64 j/\kk=.int .i64 (k+(cnDoorS (x.take j):Nat))/\Elems RDoor wr b off (mkDoorS (x.take j) k++x.drop j) fps/\Upto (b :: fps.flatten) w wr) (fun _ i _=>x.length - (intOf i).toNat)
 case atStart=>exact ⟨0,Nat.zero_le _,rfl,congrArg (Value.int .i64) (by simp [cnDoorS]),by simpa [mkDoorS] using HE.out,Upto.refl _ _⟩
 case round =>
  obtain ⟨j,hj,rfl,rfl,hE,hU⟩:=hrel
  have HEr:=Lib.hid hE; have HU:=Lib.hid hU; clear hE hU
  by_cases hjl:j < x.length
  rotate_left
  ·obtain rfl:j=x.length:=by omega
   go_wp2
   go_ret
   have h:=HEr.out
   rw [List.take_length,List.drop_length,List.append_nil] at h
   have hml:=mkDoorS_len x k
   exact ⟨_,rfl,congrArg (Value.int .i64) (by rw [List.take_length]),⟨_,c,by rw [hml],by rw [hml]; exact hlc,by unfold maxLen; omega,.inr ⟨b,off,fps,fun e=>HL.out (List.eq_nil_of_length_eq_zero (by rw [<-hml,e]; rfl)),rfl,rfl,h⟩⟩,HU.out⟩
  have hml:(mkDoorS (x.take j) k).length=j:=by rw [mkDoorS_len,List.length_take]; omega
  have hget:(mkDoorS (x.take j) k++x.drop j)[j]? = some x[j]:=by rw [List.getElem?_append_right (by omega),hml]; simp
  obtain ⟨f,cs,hfj,hr,hcs⟩:=HEr.out.2 j _ hget
  have hfr:=HU.out.free b List.mem_cons_self (HF.out b List.mem_cons_self)
  have hbf:b ∉ f:=fun h=>(List.nodup_cons.1 HN.out).1 (flat_mem hfj b h)
  have hff:∀ z ∈ f,Free wr z:=fun z hz=>HU.out.free z (List.mem_cons_of_mem _ (flat_mem hfj z hz)) (HF.out z (List.mem_cons_of_mem _ (flat_mem hfj z hz)))
  have hfn:f.Nodup:=(List.pairwise_flatten.1 (List.nodup_cons.1 HN.out).2).1 f (List.mem_of_getElem? hfj)
  have hec:cnDoorS (x.take j)+ecDoor x[j]=cnDoorS (x.take (j+1)):=by rw [List.take_succ_eq_append_getElem hjl,cnDoorS_snoc]
  have hect:=cnDoorS_take x (j+1)
  obtain ⟨q,hq⟩:∃ q:Int,q=k+(cnDoorS (x.take j):Nat):=⟨_,rfl⟩
  have hq0:0<=q:=by omega
  have hq1:q+(ecDoor x[j]:Nat)<=1073741824:=by omega
  rw [<-hq]
  have HQ:=Lib.hid hq; have HEC:=Lib.hid hec; have HML:=Lib.hid hml; have HFJ:=Lib.hid hfj
  clear hq hec hml hget hfj hect
  obtain ⟨c0,c1,rfl⟩:=list2 (RDoor.len hr)
  obtain ⟨f0,f1,rfl,hp0,hp1⟩:=rep_split [c0] [c1] rfl hr
  obtain ⟨he0,rfl,hI0⟩:=hp0
  injection he0 with he0; subst he0
  obtain ⟨he1,rfl,hI1⟩:=hp1
  injection he1 with he1; subst he1
  have hnd:=hfn
  simp only [List.nil_append,List.append_assoc] at hnd
  have HFF:=Lib.hid hff; have HBF:=Lib.hid hbf; clear hff hbf hfn
  have nd0:=hnd
  have hqe:=hq1; simp only [ecDoor] at hqe
  have hbl0:b < wr.heap.size:=hfr.lt
  have g0:wr.cell? ⟨b,off+j * 2,none⟩=some (Value.int .i64 x[j].1):=hcs 0 _ rfl
  have g1:wr.cell? ⟨b,off+j * 2+1,none⟩=some (Value.int .i64 x[j].2):=hcs 1 _ rfl
  have hfz:=hfr.frozen
  have HT0:=Lib.hid (Upto.refl (b :: ([]++[])) wr)
  clear hcs hfr
  go_wp2
  go_roundw
  case rel =>
   have hBe:Upto [b] wr _:=(((Upto.refl [b] wr).setCell (p:=⟨b,off+j * 2,none⟩) List.mem_cons_self (Value.int .i64 (q))).setCell (p:=⟨b,off+j * 2+1,none⟩) List.mem_cons_self (Value.int .i64 (q+1)))
   have e0:((wr.setCell ⟨b,off+j * 2,none⟩ (Value.int .i64 (q))).setCell ⟨b,off+j * 2+1,none⟩ (Value.int .i64 (q+1))).cell? ⟨b,off+j * 2,none⟩=some (Value.int .i64 (q)):=by simp [go_sem,g0]
   have e1:((wr.setCell ⟨b,off+j * 2,none⟩ (Value.int .i64 (q))).setCell ⟨b,off+j * 2+1,none⟩ (Value.int .i64 (q+1))).cell? ⟨b,off+j * 2+1,none⟩=some (Value.int .i64 (q+1)):=by simp [go_sem,g1]
   have hup:=HEr.out.update (w':=((wr.setCell ⟨b,off+j * 2,none⟩ (Value.int .i64 (q))).setCell ⟨b,off+j * 2+1,none⟩ (Value.int .i64 (q+1)))) (x':=emDoor x[j] q) (cs':=[(Value.int .i64 (q)),(Value.int .i64 (q+1))]) HN.out HFJ.out (rep_pair (rep_int [] (by first|rfl|(simp only [ecDoor]; omega)) (by constructor<;>omega)) (rep_int [] (by first|rfl|(simp only [ecDoor]; omega)) (by constructor<;>omega))) (cells_cons e0 (cells_cons e1 cells_nil))
    (fun z hz hzb hzf=>(((HT0.out.setCell (p:=⟨b,off+j * 2,none⟩) List.mem_cons_self (Value.int .i64 (q))).setCell (p:=⟨b,off+j * 2+1,none⟩) List.mem_cons_self (Value.int .i64 (q+1)))).block z hz (by rw [List.mem_cons]; exact fun h=>h.elim hzb hzf))
    (fun o ho=>have ho:o < off+j * 2\/off+j * 2+2<=o:=by have h1:(j+1) * 2=j * 2+2:=Nat.succ_mul _ _; have h2:o < off+j * 2\/off+(j+1) * 2<=o:=ho; omega
     ((setCell_out (Value.int .i64 (q+1)) (by omega)).trans ((setCell_out (Value.int .i64 (q)) (by omega)).trans rfl)))
   have e:(mkDoorS (x.take j) k++x.drop j).set j (emDoor x[j] q)=mkDoorS (x.take (j+1)) k++x.drop (j+1):=by
    rw [List.set_append_right _ _ (by rw [HML.out]; exact Nat.le_refl _),HML.out,Nat.sub_self,List.drop_eq_getElem_cons hjl,List.set_cons_zero,List.take_succ_eq_append_getElem hjl,mkDoorS_snoc,<-HQ.out]
    simp
   rw [e] at hup
   refine ⟨j+1,by omega,by go_num,congrArg (Value.int .i64) ?_,hup,HU.out.trans ((((HT0.out.setCell (p:=⟨b,off+j * 2,none⟩) List.mem_cons_self (Value.int .i64 (q))).setCell (p:=⟨b,off+j * 2+1,none⟩) List.mem_cons_self (Value.int .i64 (q+1)))).mono ?_)⟩
   ·have h1:=HQ.out; have h2:=HEC.out; simp only [ecDoor] at h2; omega
   ·intro z hz; rcases List.mem_cons.1 hz with rfl|hz; exact List.mem_cons_self; exact List.mem_cons_of_mem _ (flat_mem HFJ.out z hz)
  case measure=>simp [intOf]; omega
set_option maxHeartbeats 1000000 in
theorem markSliceS_any (v:Value) (x:DSliceS) (k:Int) (fp:List Nat) (w:World) (hx:RSliceS.rep w [v] x fp) (hn:fp.Nodup) (hf:∀ b ∈ fp,Free w b) (h0:0<=k) (h1:k+cnSliceS x<=1073741824) :
  Calls Tryz.prog 37 #[v,.int .i64 k] w (Post (MarkPost RSliceS [v] (mkSliceS x k) fp (k+cnSliceS x) w)):=by
 obtain ⟨ad,c,hv,hlc,hm,hh⟩:=hx
 injection hv with hv
 subst hv
 unfold maxLen at hm
 rcases hh with ⟨rfl,rfl⟩|⟨b,off,fps,hl,rfl,rfl,he⟩
 ·go_enter Tryz.func37,Tryz.ntmps37
  go_wp2
  go_loopw [1,5] (fun kk i wr=>i=.int .i64 0/\kk=.int .i64 k/\wr=w) (fun _ _ _=>0)
  case atStart=>exact ⟨rfl,rfl,rfl⟩
  case round =>
   obtain ⟨rfl,rfl,rfl⟩:=hrel
   go_wp2
   go_ret
   exact ⟨_,rfl,congrArg (Value.int .i64) (by simp [cnSliceS]),⟨ad,c,rfl,hlc,by unfold maxLen; omega,.inl ⟨rfl,rfl⟩⟩,Upto.refl _ _⟩
 have HN:=Lib.hid hn; have HF:=Lib.hid hf; have HE:=Lib.hid he; have HL:=Lib.hid hl; clear hn hf he hl
 go_enter Tryz.func37,Tryz.ntmps37
 go_wp2
 go_loopw [1,5] (fun kk i wr=>∃ j:Nat,j<=x.length/\i=.int .i64 j/\kk=.int .i64 (k+(cnSliceS (x.take j):Nat))/\Elems RSlice wr b off (mkSliceS (x.take j) k++x.drop j) fps/\Upto (b :: fps.flatten) w wr) (fun _ i _=>x.length - (intOf i).toNat)
 case atStart=>exact ⟨0,Nat.zero_le _,rfl,congrArg (Value.int .i64) (by simp [cnSliceS]),by simpa [mkSliceS] using HE.out,Upto.refl _ _⟩
 case round =>
  obtain ⟨j,hj,rfl,rfl,hE,hU⟩:=hrel
  have HEr:=Lib.hid hE; have HU:=Lib.hid hU; clear hE hU
  by_cases hjl:j < x.length
  rotate_left
  ·obtain rfl:j=x.length:=by omega
   go_wp2
   go_ret
   have h:=HEr.out
   rw [List.take_length,List.drop_length,List.append_nil] at h
   have hml:=mkSliceS_len x k
   exact ⟨_,rfl,congrArg (Value.int .i64) (by rw [List.take_length]),⟨_,c,by rw [hml],by rw [hml]; exact hlc,by unfold maxLen; omega,.inr ⟨b,off,fps,fun e=>HL.out (List.eq_nil_of_length_eq_zero (by rw [<-hml,e]; rfl)),rfl,rfl,h⟩⟩,HU.out⟩
  have hml:(mkSliceS (x.take j) k).length=j:=by rw [mkSliceS_len,List.length_take]; omega
  have hget:(mkSliceS (x.take j) k++x.drop j)[j]? = some x[j]:=by rw [List.getElem?_append_right (by omega),hml]; simp
  obtain ⟨f,cs,hfj,hr,hcs⟩:=HEr.out.2 j _ hget
  have hfr:=HU.out.free b List.mem_cons_self (HF.out b List.mem_cons_self)
  have hbf:b ∉ f:=fun h=>(List.nodup_cons.1 HN.out).1 (flat_mem hfj b h)
  have hff:∀ z ∈ f,Free wr z:=fun z hz=>HU.out.free z (List.mem_cons_of_mem _ (flat_mem hfj z hz)) (HF.out z (List.mem_cons_of_mem _ (flat_mem hfj z hz)))
  have hfn:f.Nodup:=(List.pairwise_flatten.1 (List.nodup_cons.1 HN.out).2).1 f (List.mem_of_getElem? hfj)
  have hec:cnSliceS (x.take j)+ecSlice x[j]=cnSliceS (x.take (j+1)):=by rw [List.take_succ_eq_append_getElem hjl,cnSliceS_snoc]
  have hect:=cnSliceS_take x (j+1)
  obtain ⟨q,hq⟩:∃ q:Int,q=k+(cnSliceS (x.take j):Nat):=⟨_,rfl⟩
  have hq0:0<=q:=by omega
  have hq1:q+(ecSlice x[j]:Nat)<=1073741824:=by omega
  rw [<-hq]
  have HQ:=Lib.hid hq; have HEC:=Lib.hid hec; have HML:=Lib.hid hml; have HFJ:=Lib.hid hfj
  clear hq hec hml hget hfj hect
  obtain ⟨c0,c1,c2,c3,c4,c5,c6,c7,c8,c9,c10,rfl⟩:=list11 (RSlice.len hr)
  obtain ⟨f0,f1,rfl,hp0,hp1⟩:=rep_split [c0] [c1,c2,c3,c4,c5,c6,c7,c8,c9,c10] rfl hr
  obtain ⟨f2,f3,rfl,hp2,hp3⟩:=rep_split [c1] [c2,c3,c4,c5,c6,c7,c8,c9,c10] rfl hp1
  obtain ⟨f4,f5,rfl,hp4,hp5⟩:=rep_split [c2,c3,c4,c5] [c6,c7,c8,c9,c10] rfl hp3
  obtain ⟨f6,f7,rfl,hp6,hp7⟩:=rep_split [c6] [c7,c8,c9,c10] rfl hp5
  obtain ⟨f8,f9,rfl,hp8,hp9⟩:=rep_split [c7] [c8,c9,c10] rfl hp7
  obtain ⟨f10,f11,rfl,hp10,hp11⟩:=rep_split [c8] [c9,c10] rfl hp9
  obtain ⟨f12,f13,rfl,hp12,hp13⟩:=rep_split [c9] [c10] rfl hp11
  obtain ⟨f14,f15,rfl,hp14,hp15⟩:=rep_split [c2,c3] [c4,c5] rfl hp4
  obtain ⟨f16,f17,rfl,hp16,hp17⟩:=rep_split [c2] [c3] rfl hp14
  obtain ⟨f18,f19,rfl,hp18,hp19⟩:=rep_split [c4] [c5] rfl hp15
  obtain ⟨he0,rfl,hI0⟩:=hp0
  injection he0 with he0; subst he0
  obtain ⟨he1,rfl⟩:=hp2
  injection he1 with he1; subst he1
  obtain ⟨he2,rfl,hI2⟩:=hp16
  injection he2 with he2; subst he2
  obtain ⟨he3,rfl,hI3⟩:=hp17
  injection he3 with he3; subst he3
  obtain ⟨he4,rfl,hI4⟩:=hp18
  injection he4 with he4; subst he4
  obtain ⟨he5,rfl,hI5⟩:=hp19
  injection he5 with he5; subst he5
  have hnd:=hfn
  simp only [List.nil_append,List.append_assoc] at hnd
  have HFF:=Lib.hid hff; have HBF:=Lib.hid hbf; clear hff hbf hfn
  obtain ⟨nd0,hnd0,dd0,de0⟩:=nodup_app hnd
  obtain ⟨nd1,hnd1,dd1,de1⟩:=nodup_app hnd0
  obtain ⟨nd2,hnd2,dd2,de2⟩:=nodup_app hnd1
  obtain ⟨nd3,nd4,dd3,de3⟩:=nodup_app hnd2
  have hm0:∀ z ∈ f6,z ∈ ([]++([]++((([]++[])++([]++[]))++(f6++(f8++(f10++(f12++f13))))))):=fun z hz=>(List.mem_append.2 (.inr (List.mem_append.2 (.inr (List.mem_append.2 (.inr (List.mem_append.2 (.inl hz))))))))
  have nb0:b ∉ f6:=fun h=>HBF.out (hm0 b h)
  have LP0_0:=Lib.hid hp6; have FR0_0:=Lib.hid (fun (z:Nat) (hz:z ∈ f6)=>HFF.out z (hm0 z hz)); clear hp6
  have hl0:(0:Int)<=(cnVecSS x[j].2.2.2.1:Nat):=Int.natCast_nonneg _
  have hm1:∀ z ∈ f8,z ∈ ([]++([]++((([]++[])++([]++[]))++(f6++(f8++(f10++(f12++f13))))))):=fun z hz=>(List.mem_append.2 (.inr (List.mem_append.2 (.inr (List.mem_append.2 (.inr (List.mem_append.2 (.inr (List.mem_append.2 (.inl hz))))))))))
  have nb1:b ∉ f8:=fun h=>HBF.out (hm1 b h)
  have LP1_0:=Lib.hid hp8; have FR1_0:=Lib.hid (fun (z:Nat) (hz:z ∈ f8)=>HFF.out z (hm1 z hz)); clear hp8
  have hl1:(0:Int)<=(cnCellS x[j].2.2.2.2.1:Nat):=Int.natCast_nonneg _
  have hm2:∀ z ∈ f10,z ∈ ([]++([]++((([]++[])++([]++[]))++(f6++(f8++(f10++(f12++f13))))))):=fun z hz=>(List.mem_append.2 (.inr (List.mem_append.2 (.inr (List.mem_append.2 (.inr (List.mem_append.2 (.inr (List.mem_append.2 (.inr (List.mem_append.2 (.inl hz))))))))))))
  have nb2:b ∉ f10:=fun h=>HBF.out (hm2 b h)
  have LP2_0:=Lib.hid hp10; have FR2_0:=Lib.hid (fun (z:Nat) (hz:z ∈ f10)=>HFF.out z (hm2 z hz)); clear hp10
  have hl2:(0:Int)<=(cnWallS x[j].2.2.2.2.2.1:Nat):=Int.natCast_nonneg _
  have hm3:∀ z ∈ f12,z ∈ ([]++([]++((([]++[])++([]++[]))++(f6++(f8++(f10++(f12++f13))))))):=fun z hz=>(List.mem_append.2 (.inr (List.mem_append.2 (.inr (List.mem_append.2 (.inr (List.mem_append.2 (.inr (List.mem_append.2 (.inr (List.mem_append.2 (.inr (List.mem_append.2 (.inl hz))))))))))))))
  have nb3:b ∉ f12:=fun h=>HBF.out (hm3 b h)
  have LP3_0:=Lib.hid hp12; have FR3_0:=Lib.hid (fun (z:Nat) (hz:z ∈ f12)=>HFF.out z (hm3 z hz)); clear hp12
  have hl3:(0:Int)<=(cnDoorS x[j].2.2.2.2.2.2.1:Nat):=Int.natCast_nonneg _
  have hm4:∀ z ∈ f13,z ∈ ([]++([]++((([]++[])++([]++[]))++(f6++(f8++(f10++(f12++f13))))))):=fun z hz=>(List.mem_append.2 (.inr (List.mem_append.2 (.inr (List.mem_append.2 (.inr (List.mem_append.2 (.inr (List.mem_append.2 (.inr (List.mem_append.2 (.inr (List.mem_append.2 (.inr hz))))))))))))))
  have nb4:b ∉ f13:=fun h=>HBF.out (hm4 b h)
  have LP4_0:=Lib.hid hp13; have FR4_0:=Lib.hid (fun (z:Nat) (hz:z ∈ f13)=>HFF.out z (hm4 z hz)); clear hp13
  have hl4:(0:Int)<=(x[j].2.2.2.2.2.2.2.length:Nat):=Int.natCast_nonneg _
  have hqe:=hq1; simp only [ecSlice,ecBox,ecVec] at hqe
  have hbl0:b < wr.heap.size:=hfr.lt
  have g0:wr.cell? ⟨b,off+j * 11,none⟩=some (Value.int .i64 x[j].1):=hcs 0 _ rfl
  have g1:wr.cell? ⟨b,off+j * 11+1,none⟩=some (Value.bool x[j].2.1):=hcs 1 _ rfl
  have g2:wr.cell? ⟨b,off+j * 11+2,none⟩=some (Value.int .i64 x[j].2.2.1.1.1):=hcs 2 _ rfl
  have g3:wr.cell? ⟨b,off+j * 11+3,none⟩=some (Value.int .i64 x[j].2.2.1.1.2):=hcs 3 _ rfl
  have g4:wr.cell? ⟨b,off+j * 11+4,none⟩=some (Value.int .i64 x[j].2.2.1.2.1):=hcs 4 _ rfl
  have g5:wr.cell? ⟨b,off+j * 11+5,none⟩=some (Value.int .i64 x[j].2.2.1.2.2):=hcs 5 _ rfl
  have g6:wr.cell? ⟨b,off+j * 11+6,none⟩=some c6:=hcs 6 _ rfl
  have g7:wr.cell? ⟨b,off+j * 11+7,none⟩=some c7:=hcs 7 _ rfl
  have g8:wr.cell? ⟨b,off+j * 11+8,none⟩=some c8:=hcs 8 _ rfl
  have g9:wr.cell? ⟨b,off+j * 11+9,none⟩=some c9:=hcs 9 _ rfl
  have g10:wr.cell? ⟨b,off+j * 11+10,none⟩=some c10:=hcs 10 _ rfl
  have hfz:=hfr.frozen
  have HT0:=Lib.hid (Upto.refl (b :: ([]++([]++((([]++[])++([]++[]))++(f6++(f8++(f10++(f12++f13)))))))) wr)
  clear hcs hfr
  go_wp2_with fail
  have hB0:Upto [b] wr _:=(((((((Upto.refl [b] wr).setCell (p:=⟨b,off+j * 11,none⟩) List.mem_cons_self (Value.int .i64 (q))).setCell (p:=⟨b,off+j * 11+1,none⟩) List.mem_cons_self (Value.bool ((q+1) % 3 == 0))).setCell (p:=⟨b,off+j * 11+2,none⟩) List.mem_cons_self (Value.int .i64 (q+1+1))).setCell (p:=⟨b,off+j * 11+3,none⟩) List.mem_cons_self (Value.int .i64 (q+1+1+1))).setCell (p:=⟨b,off+j * 11+4,none⟩) List.mem_cons_self (Value.int .i64 (q+1+1+1+1))).setCell (p:=⟨b,off+j * 11+5,none⟩) List.mem_cons_self (Value.int .i64 (q+1+1+1+1+1)))
  refine (markVecSS_any _ _ _ f6 _ (Rp.upto LP0_0.out hB0 (fun z hz hb=>nb0 (List.mem_singleton.1 hb ▸ hz))) nd0 (fun z hz=>(((((((FR0_0.out z hz).setCell _ _).setCell _ _).setCell _ _).setCell _ _).setCell _ _).setCell _ _)) (by omega) (by omega)).mono ?_
  rintro e w1 ⟨v,rfl,rfl,hmm,hu1⟩
  have hbl1:b < w1.heap.size:=Nat.lt_of_lt_of_le (by simpa using hbl0) hu1.size
  have hcb1:=hu1.cell (b:=b) (by simpa using hbl0) nb0
  have hfb1:=hu1.frozen (b:=b) (by simpa using hbl0) nb0
  have HT1:=Lib.hid (((((((HT0.out.setCell (p:=⟨b,off+j * 11,none⟩) List.mem_cons_self (Value.int .i64 (q))).setCell (p:=⟨b,off+j * 11+1,none⟩) List.mem_cons_self (Value.bool ((q+1) % 3 == 0))).setCell (p:=⟨b,off+j * 11+2,none⟩) List.mem_cons_self (Value.int .i64 (q+1+1))).setCell (p:=⟨b,off+j * 11+3,none⟩) List.mem_cons_self (Value.int .i64 (q+1+1+1))).setCell (p:=⟨b,off+j * 11+4,none⟩) List.mem_cons_self (Value.int .i64 (q+1+1+1+1))).setCell (p:=⟨b,off+j * 11+5,none⟩) List.mem_cons_self (Value.int .i64 (q+1+1+1+1+1))).trans (hu1.mono fun z hz=>List.mem_cons_of_mem _ (hm0 z hz))); clear HT0
  have HO1:=Lib.hid (fun (o:Nat) (ho:o < off+j * 11\/off+j * 11+11<=o)=>(hcb1 o).trans ((setCell_out (Value.int .i64 (q+1+1+1+1+1)) (by omega)).trans ((setCell_out (Value.int .i64 (q+1+1+1+1)) (by omega)).trans ((setCell_out (Value.int .i64 (q+1+1+1)) (by omega)).trans ((setCell_out (Value.int .i64 (q+1+1)) (by omega)).trans ((setCell_out (Value.bool ((q+1) % 3 == 0)) (by omega)).trans ((setCell_out (Value.int .i64 (q)) (by omega)).trans rfl)))))));
  have LP0_1:=Lib.hid hmm; clear hmm LP0_0
  have LP1_1:=Lib.hid (Rp.upto (Rp.upto LP1_0.out hB0 (fun z hz hb=>nb1 (List.mem_singleton.1 hb ▸ hz))) hu1 (fun z hz hy=>dd0 z hy (List.mem_append.2 (.inl hz)))); clear LP1_0
  have FR1_1:=Lib.hid (fun (z:Nat) (hz:z ∈ f8)=>((((((((FR1_0.out z hz).setCell _ _).setCell _ _).setCell _ _).setCell _ _).setCell _ _).setCell _ _)).frame (hu1.block z (Free.lt (((((((FR1_0.out z hz).setCell _ _).setCell _ _).setCell _ _).setCell _ _).setCell _ _).setCell _ _)) ((fun z hz hy=>dd0 z hy (List.mem_append.2 (.inl hz))) z hz))); clear FR1_0
  have LP2_1:=Lib.hid (Rp.upto (Rp.upto LP2_0.out hB0 (fun z hz hb=>nb2 (List.mem_singleton.1 hb ▸ hz))) hu1 (fun z hz hy=>dd0 z hy (List.mem_append.2 (.inr (List.mem_append.2 (.inl hz)))))); clear LP2_0
  have FR2_1:=Lib.hid (fun (z:Nat) (hz:z ∈ f10)=>((((((((FR2_0.out z hz).setCell _ _).setCell _ _).setCell _ _).setCell _ _).setCell _ _).setCell _ _)).frame (hu1.block z (Free.lt (((((((FR2_0.out z hz).setCell _ _).setCell _ _).setCell _ _).setCell _ _).setCell _ _).setCell _ _)) ((fun z hz hy=>dd0 z hy (List.mem_append.2 (.inr (List.mem_append.2 (.inl hz))))) z hz))); clear FR2_0
  have LP3_1:=Lib.hid (Rp.upto (Rp.upto LP3_0.out hB0 (fun z hz hb=>nb3 (List.mem_singleton.1 hb ▸ hz))) hu1 (fun z hz hy=>dd0 z hy (List.mem_append.2 (.inr (List.mem_append.2 (.inr (List.mem_append.2 (.inl hz)))))))); clear LP3_0
  have FR3_1:=Lib.hid (fun (z:Nat) (hz:z ∈ f12)=>((((((((FR3_0.out z hz).setCell _ _).setCell _ _).setCell _ _).setCell _ _).setCell _ _).setCell _ _)).frame (hu1.block z (Free.lt (((((((FR3_0.out z hz).setCell _ _).setCell _ _).setCell _ _).setCell _ _).setCell _ _).setCell _ _)) ((fun z hz hy=>dd0 z hy (List.mem_append.2 (.inr (List.mem_append.2 (.inr (List.mem_append.2 (.inl hz))))))) z hz))); clear FR3_0
  have LP4_1:=Lib.hid (Rp.upto (Rp.upto LP4_0.out hB0 (fun z hz hb=>nb4 (List.mem_singleton.1 hb ▸ hz))) hu1 (fun z hz hy=>dd0 z hy (List.mem_append.2 (.inr (List.mem_append.2 (.inr (List.mem_append.2 (.inr (hz))))))))); clear LP4_0
  have FR4_1:=Lib.hid (fun (z:Nat) (hz:z ∈ f13)=>((((((((FR4_0.out z hz).setCell _ _).setCell _ _).setCell _ _).setCell _ _).setCell _ _).setCell _ _)).frame (hu1.block z (Free.lt (((((((FR4_0.out z hz).setCell _ _).setCell _ _).setCell _ _).setCell _ _).setCell _ _).setCell _ _)) ((fun z hz hy=>dd0 z hy (List.mem_append.2 (.inr (List.mem_append.2 (.inr (List.mem_append.2 (.inr (hz)))))))) z hz))); clear FR4_0
  clear hu1 hB0 FR0_0
  go_wp2_with fail
  have hB1:Upto [b] w1 _:=(Upto.refl [b] w1)
  refine (markCellS_any _ _ _ f8 _ (Rp.upto LP1_1.out hB1 (fun z hz hb=>nb1 (List.mem_singleton.1 hb ▸ hz))) nd1 (fun z hz=>(FR1_1.out z hz)) (by omega) (by omega)).mono ?_
  rintro e w2 ⟨v,rfl,rfl,hmm,hu2⟩
  have hbl2:b < w2.heap.size:=Nat.lt_of_lt_of_le (by simpa using hbl1) hu2.size
  have hcb2:=hu2.cell (b:=b) (by simpa using hbl1) nb1
  have hfb2:=hu2.frozen (b:=b) (by simpa using hbl1) nb1
  have HT2:=Lib.hid (HT1.out.trans (hu2.mono fun z hz=>List.mem_cons_of_mem _ (hm1 z hz))); clear HT1
  have HO2:=Lib.hid (fun (o:Nat) (ho:o < off+j * 11\/off+j * 11+11<=o)=>(hcb2 o).trans (HO1.out o ho)); clear HO1
  have LP0_2:=Lib.hid (Rp.upto (Rp.upto LP0_1.out hB1 (fun z hz hb=>nb0 (List.mem_singleton.1 hb ▸ hz))) hu2 (fun z hy hz=>dd0 z hy (List.mem_append.2 (.inl hz)))); clear LP0_1
  have LP1_2:=Lib.hid hmm; clear hmm LP1_1
  have LP2_2:=Lib.hid (Rp.upto (Rp.upto LP2_1.out hB1 (fun z hz hb=>nb2 (List.mem_singleton.1 hb ▸ hz))) hu2 (fun z hz hy=>dd1 z hy (List.mem_append.2 (.inl hz)))); clear LP2_1
  have FR2_2:=Lib.hid (fun (z:Nat) (hz:z ∈ f10)=>((FR2_1.out z hz)).frame (hu2.block z (Free.lt (FR2_1.out z hz)) ((fun z hz hy=>dd1 z hy (List.mem_append.2 (.inl hz))) z hz))); clear FR2_1
  have LP3_2:=Lib.hid (Rp.upto (Rp.upto LP3_1.out hB1 (fun z hz hb=>nb3 (List.mem_singleton.1 hb ▸ hz))) hu2 (fun z hz hy=>dd1 z hy (List.mem_append.2 (.inr (List.mem_append.2 (.inl hz)))))); clear LP3_1
  have FR3_2:=Lib.hid (fun (z:Nat) (hz:z ∈ f12)=>((FR3_1.out z hz)).frame (hu2.block z (Free.lt (FR3_1.out z hz)) ((fun z hz hy=>dd1 z hy (List.mem_append.2 (.inr (List.mem_append.2 (.inl hz))))) z hz))); clear FR3_1
  have LP4_2:=Lib.hid (Rp.upto (Rp.upto LP4_1.out hB1 (fun z hz hb=>nb4 (List.mem_singleton.1 hb ▸ hz))) hu2 (fun z hz hy=>dd1 z hy (List.mem_append.2 (.inr (List.mem_append.2 (.inr (hz))))))); clear LP4_1
  have FR4_2:=Lib.hid (fun (z:Nat) (hz:z ∈ f13)=>((FR4_1.out z hz)).frame (hu2.block z (Free.lt (FR4_1.out z hz)) ((fun z hz hy=>dd1 z hy (List.mem_append.2 (.inr (List.mem_append.2 (.inr (hz)))))) z hz))); clear FR4_1
  clear hu2 hB1 FR1_1
  go_wp2_with fail
  have hB2:Upto [b] w2 _:=(Upto.refl [b] w2)
  refine (markWallS_any _ _ _ f10 _ (Rp.upto LP2_2.out hB2 (fun z hz hb=>nb2 (List.mem_singleton.1 hb ▸ hz))) nd2 (fun z hz=>(FR2_2.out z hz)) (by omega) (by omega)).mono ?_
  rintro e w3 ⟨v,rfl,rfl,hmm,hu3⟩
  have hbl3:b < w3.heap.size:=Nat.lt_of_lt_of_le (by simpa using hbl2) hu3.size
  have hcb3:=hu3.cell (b:=b) (by simpa using hbl2) nb2
  have hfb3:=hu3.frozen (b:=b) (by simpa using hbl2) nb2
  have HT3:=Lib.hid (HT2.out.trans (hu3.mono fun z hz=>List.mem_cons_of_mem _ (hm2 z hz))); clear HT2
  have HO3:=Lib.hid (fun (o:Nat) (ho:o < off+j * 11\/off+j * 11+11<=o)=>(hcb3 o).trans (HO2.out o ho)); clear HO2
  have LP0_3:=Lib.hid (Rp.upto (Rp.upto LP0_2.out hB2 (fun z hz hb=>nb0 (List.mem_singleton.1 hb ▸ hz))) hu3 (fun z hy hz=>dd0 z hy (List.mem_append.2 (.inr (List.mem_append.2 (.inl hz)))))); clear LP0_2
  have LP1_3:=Lib.hid (Rp.upto (Rp.upto LP1_2.out hB2 (fun z hz hb=>nb1 (List.mem_singleton.1 hb ▸ hz))) hu3 (fun z hy hz=>dd1 z hy (List.mem_append.2 (.inl hz)))); clear LP1_2
  have LP2_3:=Lib.hid hmm; clear hmm LP2_2
  have LP3_3:=Lib.hid (Rp.upto (Rp.upto LP3_2.out hB2 (fun z hz hb=>nb3 (List.mem_singleton.1 hb ▸ hz))) hu3 (fun z hz hy=>dd2 z hy (List.mem_append.2 (.inl hz)))); clear LP3_2
  have FR3_3:=Lib.hid (fun (z:Nat) (hz:z ∈ f12)=>((FR3_2.out z hz)).frame (hu3.block z (Free.lt (FR3_2.out z hz)) ((fun z hz hy=>dd2 z hy (List.mem_append.2 (.inl hz))) z hz))); clear FR3_2
  have LP4_3:=Lib.hid (Rp.upto (Rp.upto LP4_2.out hB2 (fun z hz hb=>nb4 (List.mem_singleton.1 hb ▸ hz))) hu3 (fun z hz hy=>dd2 z hy (List.mem_append.2 (.inr (hz))))); clear LP4_2
  have FR4_3:=Lib.hid (fun (z:Nat) (hz:z ∈ f13)=>((FR4_2.out z hz)).frame (hu3.block z (Free.lt (FR4_2.out z hz)) ((fun z hz hy=>dd2 z hy (List.mem_append.2 (.inr (hz)))) z hz))); clear FR4_2
  clear hu3 hB2 FR2_2
  go_wp2_with fail
  have hB3:Upto [b] w3 _:=(Upto.refl [b] w3)
  refine (markDoorS_any _ _ _ f12 _ (Rp.upto LP3_3.out hB3 (fun z hz hb=>nb3 (List.mem_singleton.1 hb ▸ hz))) nd3 (fun z hz=>(FR3_3.out z hz)) (by omega) (by omega)).mono ?_
  rintro e w4 ⟨v,rfl,rfl,hmm,hu4⟩
  have hbl4:b < w4.heap.size:=Nat.lt_of_lt_of_le (by simpa using hbl3) hu4.size
  have hcb4:=hu4.cell (b:=b) (by simpa using hbl3) nb3
  have hfb4:=hu4.frozen (b:=b) (by simpa using hbl3) nb3
  have HT4:=Lib.hid (HT3.out.trans (hu4.mono fun z hz=>List.mem_cons_of_mem _ (hm3 z hz))); clear HT3
  have HO4:=Lib.hid (fun (o:Nat) (ho:o < off+j * 11\/off+j * 11+11<=o)=>(hcb4 o).trans (HO3.out o ho)); clear HO3
  have LP0_4:=Lib.hid (Rp.upto (Rp.upto LP0_3.out hB3 (fun z hz hb=>nb0 (List.mem_singleton.1 hb ▸ hz))) hu4 (fun z hy hz=>dd0 z hy (List.mem_append.2 (.inr (List.mem_append.2 (.inr (List.mem_append.2 (.inl hz)))))))); clear LP0_3
  have LP1_4:=Lib.hid (Rp.upto (Rp.upto LP1_3.out hB3 (fun z hz hb=>nb1 (List.mem_singleton.1 hb ▸ hz))) hu4 (fun z hy hz=>dd1 z hy (List.mem_append.2 (.inr (List.mem_append.2 (.inl hz)))))); clear LP1_3
  have LP2_4:=Lib.hid (Rp.upto (Rp.upto LP2_3.out hB3 (fun z hz hb=>nb2 (List.mem_singleton.1 hb ▸ hz))) hu4 (fun z hy hz=>dd2 z hy (List.mem_append.2 (.inl hz)))); clear LP2_3
  have LP3_4:=Lib.hid hmm; clear hmm LP3_3
  have LP4_4:=Lib.hid (Rp.upto (Rp.upto LP4_3.out hB3 (fun z hz hb=>nb4 (List.mem_singleton.1 hb ▸ hz))) hu4 (fun z hz hy=>dd3 z hy (hz))); clear LP4_3
  have FR4_4:=Lib.hid (fun (z:Nat) (hz:z ∈ f13)=>((FR4_3.out z hz)).frame (hu4.block z (Free.lt (FR4_3.out z hz)) ((fun z hz hy=>dd3 z hy (hz)) z hz))); clear FR4_3
  clear hu4 hB3 FR3_3
  go_wp2_with fail
  have hB4:Upto [b] w4 _:=(Upto.refl [b] w4)
  refine (markIntS_any _ _ _ f13 _ (Rp.upto LP4_4.out hB4 (fun z hz hb=>nb4 (List.mem_singleton.1 hb ▸ hz))) nd4 (fun z hz=>(FR4_4.out z hz)) (by omega) (by omega)).mono ?_
  rintro e w5 ⟨v,rfl,rfl,hmm,hu5⟩
  have hbl5:b < w5.heap.size:=Nat.lt_of_lt_of_le (by simpa using hbl4) hu5.size
  have hcb5:=hu5.cell (b:=b) (by simpa using hbl4) nb4
  have hfb5:=hu5.frozen (b:=b) (by simpa using hbl4) nb4
  have HT5:=Lib.hid (HT4.out.trans (hu5.mono fun z hz=>List.mem_cons_of_mem _ (hm4 z hz))); clear HT4
  have HO5:=Lib.hid (fun (o:Nat) (ho:o < off+j * 11\/off+j * 11+11<=o)=>(hcb5 o).trans (HO4.out o ho)); clear HO4
  have LP0_5:=Lib.hid (Rp.upto (Rp.upto LP0_4.out hB4 (fun z hz hb=>nb0 (List.mem_singleton.1 hb ▸ hz))) hu5 (fun z hy hz=>dd0 z hy (List.mem_append.2 (.inr (List.mem_append.2 (.inr (List.mem_append.2 (.inr (hz))))))))); clear LP0_4
  have LP1_5:=Lib.hid (Rp.upto (Rp.upto LP1_4.out hB4 (fun z hz hb=>nb1 (List.mem_singleton.1 hb ▸ hz))) hu5 (fun z hy hz=>dd1 z hy (List.mem_append.2 (.inr (List.mem_append.2 (.inr (hz))))))); clear LP1_4
  have LP2_5:=Lib.hid (Rp.upto (Rp.upto LP2_4.out hB4 (fun z hz hb=>nb2 (List.mem_singleton.1 hb ▸ hz))) hu5 (fun z hy hz=>dd2 z hy (List.mem_append.2 (.inr (hz))))); clear LP2_4
  have LP3_5:=Lib.hid (Rp.upto (Rp.upto LP3_4.out hB4 (fun z hz hb=>nb3 (List.mem_singleton.1 hb ▸ hz))) hu5 (fun z hy hz=>dd3 z hy (hz))); clear LP3_4
  have LP4_5:=Lib.hid hmm; clear hmm LP4_4
  clear hu5 hB4 FR4_4
  go_wp2
  go_roundw
  case rel =>
   have e0:w5.cell? ⟨b,off+j * 11,none⟩=some (Value.int .i64 (q)):=by simp [go_sem,hcb1,hcb2,hcb3,hcb4,hcb5,g0]
   have e1:w5.cell? ⟨b,off+j * 11+1,none⟩=some (Value.bool ((q+1) % 3 == 0)):=by simp [go_sem,hcb1,hcb2,hcb3,hcb4,hcb5,g1]
   have e2:w5.cell? ⟨b,off+j * 11+2,none⟩=some (Value.int .i64 (q+1+1)):=by simp [go_sem,hcb1,hcb2,hcb3,hcb4,hcb5,g2]
   have e3:w5.cell? ⟨b,off+j * 11+3,none⟩=some (Value.int .i64 (q+1+1+1)):=by simp [go_sem,hcb1,hcb2,hcb3,hcb4,hcb5,g3]
   have e4:w5.cell? ⟨b,off+j * 11+4,none⟩=some (Value.int .i64 (q+1+1+1+1)):=by simp [go_sem,hcb1,hcb2,hcb3,hcb4,hcb5,g4]
   have e5:w5.cell? ⟨b,off+j * 11+5,none⟩=some (Value.int .i64 (q+1+1+1+1+1)):=by simp [go_sem,hcb1,hcb2,hcb3,hcb4,hcb5,g5]
   have e6:w5.cell? ⟨b,off+j * 11+6,none⟩=some c6:=by simp [go_sem,hcb1,hcb2,hcb3,hcb4,hcb5,g6]
   have e7:w5.cell? ⟨b,off+j * 11+7,none⟩=some c7:=by simp [go_sem,hcb1,hcb2,hcb3,hcb4,hcb5,g7]
   have e8:w5.cell? ⟨b,off+j * 11+8,none⟩=some c8:=by simp [go_sem,hcb1,hcb2,hcb3,hcb4,hcb5,g8]
   have e9:w5.cell? ⟨b,off+j * 11+9,none⟩=some c9:=by simp [go_sem,hcb1,hcb2,hcb3,hcb4,hcb5,g9]
   have e10:w5.cell? ⟨b,off+j * 11+10,none⟩=some c10:=by simp [go_sem,hcb1,hcb2,hcb3,hcb4,hcb5,g10]
   have hup:=HEr.out.update (w':=w5) (x':=emSlice x[j] q) (cs':=[(Value.int .i64 (q)),(Value.bool ((q+1) % 3 == 0)),(Value.int .i64 (q+1+1)),(Value.int .i64 (q+1+1+1)),(Value.int .i64 (q+1+1+1+1)),(Value.int .i64 (q+1+1+1+1+1)),c6,c7,c8,c9,c10]) HN.out HFJ.out (rep_pair (rep_int [] (by first|rfl|(simp only [ecSlice,ecBox,ecVec]; omega)) (by first|(constructor<;>omega)|(simp only [ecSlice,ecBox,ecVec]; constructor<;>omega))) (rep_pair (rep_bool [] (by first|rfl|(simp only [ecSlice,ecBox,ecVec]; omega))) (rep_pair (rep_pair (rep_pair (rep_int [] (by first|rfl|(simp only [ecSlice,ecBox,ecVec]; omega)) (by first|(constructor<;>omega)|(simp only [ecSlice,ecBox,ecVec]; constructor<;>omega))) (rep_int [] (by first|rfl|(simp only [ecSlice,ecBox,ecVec]; omega)) (by first|(constructor<;>omega)|(simp only [ecSlice,ecBox,ecVec]; constructor<;>omega)))) (rep_pair (rep_int [] (by first|rfl|(simp only [ecSlice,ecBox,ecVec]; omega)) (by first|(constructor<;>omega)|(simp only [ecSlice,ecBox,ecVec]; constructor<;>omega))) (rep_int [] (by first|rfl|(simp only [ecSlice,ecBox,ecVec]; omega)) (by first|(constructor<;>omega)|(simp only [ecSlice,ecBox,ecVec]; constructor<;>omega))))) (rep_pair (rep_cast LP0_5.out (congrArg (mkVecSS _) (by first|rfl|(simp only [ecSlice,ecBox,ecVec]; omega)))) (rep_pair (rep_cast LP1_5.out (congrArg (mkCellS _) (by first|rfl|(simp only [ecSlice,ecBox,ecVec]; omega)))) (rep_pair (rep_cast LP2_5.out (congrArg (mkWallS _) (by first|rfl|(simp only [ecSlice,ecBox,ecVec]; omega)))) (rep_pair (rep_cast LP3_5.out (congrArg (mkDoorS _) (by first|rfl|(simp only [ecSlice,ecBox,ecVec]; omega)))) (rep_cast LP4_5.out (congrArg (mkIntS _) (by first|rfl|(simp only [ecSlice,ecBox,ecVec]; omega))))))))))) (cells_cons e0 (cells_cons e1 (cells_cons e2 (cells_cons e3 (cells_cons e4 (cells_cons e5 (cells_cons e6 (cells_cons e7 (cells_cons e8 (cells_cons e9 (cells_cons e10 cells_nil)))))))))))
    (fun z hz hzb hzf=>(HT5.out).block z hz (by rw [List.mem_cons]; exact fun h=>h.elim hzb hzf))
    (fun o ho=>have ho:o < off+j * 11\/off+j * 11+11<=o:=by have h1:(j+1) * 11=j * 11+11:=Nat.succ_mul _ _; have h2:o < off+j * 11\/off+(j+1) * 11<=o:=ho; omega
     (HO5.out o ho))
   have e:(mkSliceS (x.take j) k++x.drop j).set j (emSlice x[j] q)=mkSliceS (x.take (j+1)) k++x.drop (j+1):=by
    rw [List.set_append_right _ _ (by rw [HML.out]; exact Nat.le_refl _),HML.out,Nat.sub_self,List.drop_eq_getElem_cons hjl,List.set_cons_zero,List.take_succ_eq_append_getElem hjl,mkSliceS_snoc,<-HQ.out]
    simp
   rw [e] at hup
   refine ⟨j+1,by omega,by go_num,congrArg (Value.int .i64) ?_,hup,HU.out.trans ((HT5.out).mono ?_)⟩
   ·have h1:=HQ.out; have h2:=HEC.out; simp only [ecSlice,ecBox,ecVec] at h2; omega
   ·intro z hz; rcases List.mem_cons.1 hz with rfl|hz; exact List.mem_cons_self; exact List.mem_cons_of_mem _ (flat_mem HFJ.out z hz)
  case measure=>simp [intOf]; omega
def cnRoad (x:DRoad):Nat:=cnScene x.1+cnSliceS x.2.1+x.2.2.1.length+cnIntSS x.2.2.2
def mkRoad (x:DRoad) (k:Int):DRoad:=(mkScene x.1 k,mkSliceS x.2.1 (k+cnScene x.1),mkIntS x.2.2.1 (k+cnScene x.1+cnSliceS x.2.1),mkIntSS x.2.2.2 (k+cnScene x.1+cnSliceS x.2.1+x.2.2.1.length))
set_option maxHeartbeats 1000000 in
theorem markRoad_any (c0 c1 c2 c3 c4 c5 c6 c7 c8 c9:Value) (x:DRoad) (k:Int) (fp:List Nat) (w:World) (hx:RRoad.rep w [c0,c1,c2,c3,c4,c5,c6,c7,c8,c9] x fp) (hn:fp.Nodup) (hf:∀ b ∈ fp,Free w b) (h0:0<=k) (h1:k+cnRoad x<=1073741824) :
  Calls Tryz.prog 13 #[.agg #[c0,c1,c2,c3,c4,c5,c6,c7,c8,c9],.int .i64 k] w (Post (MarkPost RRoad [c0,c1,c2,c3,c4,c5,c6,c7,c8,c9] (mkRoad x k) fp (k+cnRoad x) w)):=by
 have hlt:=RRoad.lt hx
 obtain ⟨f0,frest0,rfl,hr0,hrest0⟩:=rep_split [c0,c1,c2,c3,c4,c5,c6] [c7,c8,c9] rfl hx
 obtain ⟨f1,frest1,rfl,hr1,hrest1⟩:=rep_split [c7] [c8,c9] rfl hrest0
 obtain ⟨f2,f3,rfl,hr2,hr3⟩:=rep_split [c8] [c9] rfl hrest1
 obtain ⟨nd0,ndr0,dj0,dk0⟩:=nodup_app hn
 obtain ⟨nd1,ndr1,dj1,dk1⟩:=nodup_app ndr0
 obtain ⟨nd2,nd3,dj2,dk2⟩:=nodup_app ndr1
 have m0:∀ b,b ∈ f0->b ∈ f0++(f1++(f2++f3)):=fun b hb=>(List.mem_append.2 (.inl hb))
 have m1:∀ b,b ∈ f1->b ∈ f0++(f1++(f2++f3)):=fun b hb=>(List.mem_append.2 (.inr (List.mem_append.2 (.inl hb))))
 have m2:∀ b,b ∈ f2->b ∈ f0++(f1++(f2++f3)):=fun b hb=>(List.mem_append.2 (.inr (List.mem_append.2 (.inr (List.mem_append.2 (.inl hb))))))
 have m3:∀ b,b ∈ f3->b ∈ f0++(f1++(f2++f3)):=fun b hb=>(List.mem_append.2 (.inr (List.mem_append.2 (.inr (List.mem_append.2 (.inr hb))))))
 have n01:∀ b,b ∈ f0->b ∉ f1:=fun b h g=>dj0 b h (List.mem_append.2 (.inl g))
 have n10:∀ b,b ∈ f1->b ∉ f0:=fun b h g=>n01 b g h
 have n02:∀ b,b ∈ f0->b ∉ f2:=fun b h g=>dj0 b h (List.mem_append.2 (.inr (List.mem_append.2 (.inl g))))
 have n20:∀ b,b ∈ f2->b ∉ f0:=fun b h g=>n02 b g h
 have n03:∀ b,b ∈ f0->b ∉ f3:=fun b h g=>dj0 b h (List.mem_append.2 (.inr (List.mem_append.2 (.inr g))))
 have n30:∀ b,b ∈ f3->b ∉ f0:=fun b h g=>n03 b g h
 have n12:∀ b,b ∈ f1->b ∉ f2:=fun b h g=>dj1 b h (List.mem_append.2 (.inl g))
 have n21:∀ b,b ∈ f2->b ∉ f1:=fun b h g=>n12 b g h
 have n13:∀ b,b ∈ f1->b ∉ f3:=fun b h g=>dj1 b h (List.mem_append.2 (.inr g))
 have n31:∀ b,b ∈ f3->b ∉ f1:=fun b h g=>n13 b g h
 have n23:∀ b,b ∈ f2->b ∉ f3:=fun b h g=>dj2 b h g
 have n32:∀ b,b ∈ f3->b ∉ f2:=fun b h g=>n23 b g h
 have HR0:=Lib.hid hr0; clear hr0
 have HR1:=Lib.hid hr1; clear hr1
 have HR2:=Lib.hid hr2; clear hr2
 have HR3:=Lib.hid hr3; clear hr3
 have HF:=Lib.hid hf; have HLT:=Lib.hid hlt; clear hn hf hlt hx hrest0 hrest1
 have hub:=h1; unfold cnRoad at hub
 have hp0:(0:Int)<=(cnScene x.1:Nat):=Int.natCast_nonneg _
 have hp1:(0:Int)<=(cnSliceS x.2.1:Nat):=Int.natCast_nonneg _
 have hp2:(0:Int)<=(x.2.2.1.length:Nat):=Int.natCast_nonneg _
 have hp3:(0:Int)<=(cnIntSS x.2.2.2:Nat):=Int.natCast_nonneg _
 have hend:k+(cnScene x.1:Nat)+(cnSliceS x.2.1:Nat)+(x.2.2.1.length:Nat)+(cnIntSS x.2.2.2:Nat)=k+(cnRoad x:Nat):=by unfold cnRoad; omega
 have HEND:=Lib.hid hend; clear hend
 go_enter Tryz.func13,Tryz.ntmps13
 have hu0:Below w.heap.size w (w.alloc (Obj.cells #[c0,c1,c2,c3,c4,c5,c6,c7,c8,c9] 43)):=(Below.refl w.heap.size w).alloc (Nat.le_refl _) _
 have hrA0:RScene.rep (w.alloc (Obj.cells #[c0,c1,c2,c3,c4,c5,c6,c7,c8,c9] 43)) [c0,c1,c2,c3,c4,c5,c6] x.1 f0:=RScene.frame HR0.out fun b hb=>hu0.block b (HLT.out b (m0 b hb))
 have hfA0:∀ b ∈ f0,Free (w.alloc (Obj.cells #[c0,c1,c2,c3,c4,c5,c6,c7,c8,c9] 43)) b:=fun b hb=>(HF.out b (m0 b hb)).frame (hu0.block b (HLT.out b (m0 b hb)))
 have hlA0:∀ b ∈ f0,b < (w.alloc (Obj.cells #[c0,c1,c2,c3,c4,c5,c6,c7,c8,c9] 43)).heap.size:=fun b hb=>Nat.lt_of_lt_of_le (HLT.out b (m0 b hb)) hu0.size
 have HRA0:=Lib.hid hrA0; have HFA0:=Lib.hid hfA0; have HLA0:=Lib.hid hlA0; clear hrA0 hfA0 hlA0
 have hrA1:RSliceS.rep (w.alloc (Obj.cells #[c0,c1,c2,c3,c4,c5,c6,c7,c8,c9] 43)) [c7] x.2.1 f1:=RSliceS.frame HR1.out fun b hb=>hu0.block b (HLT.out b (m1 b hb))
 have hfA1:∀ b ∈ f1,Free (w.alloc (Obj.cells #[c0,c1,c2,c3,c4,c5,c6,c7,c8,c9] 43)) b:=fun b hb=>(HF.out b (m1 b hb)).frame (hu0.block b (HLT.out b (m1 b hb)))
 have hlA1:∀ b ∈ f1,b < (w.alloc (Obj.cells #[c0,c1,c2,c3,c4,c5,c6,c7,c8,c9] 43)).heap.size:=fun b hb=>Nat.lt_of_lt_of_le (HLT.out b (m1 b hb)) hu0.size
 have HRA1:=Lib.hid hrA1; have HFA1:=Lib.hid hfA1; have HLA1:=Lib.hid hlA1; clear hrA1 hfA1 hlA1
 have hrA2:RIntS.rep (w.alloc (Obj.cells #[c0,c1,c2,c3,c4,c5,c6,c7,c8,c9] 43)) [c8] x.2.2.1 f2:=RIntS.frame HR2.out fun b hb=>hu0.block b (HLT.out b (m2 b hb))
 have hfA2:∀ b ∈ f2,Free (w.alloc (Obj.cells #[c0,c1,c2,c3,c4,c5,c6,c7,c8,c9] 43)) b:=fun b hb=>(HF.out b (m2 b hb)).frame (hu0.block b (HLT.out b (m2 b hb)))
 have hlA2:∀ b ∈ f2,b < (w.alloc (Obj.cells #[c0,c1,c2,c3,c4,c5,c6,c7,c8,c9] 43)).heap.size:=fun b hb=>Nat.lt_of_lt_of_le (HLT.out b (m2 b hb)) hu0.size
 have HRA2:=Lib.hid hrA2; have HFA2:=Lib.hid hfA2; have HLA2:=Lib.hid hlA2; clear hrA2 hfA2 hlA2
 have hrA3:RIntSS.rep (w.alloc (Obj.cells #[c0,c1,c2,c3,c4,c5,c6,c7,c8,c9] 43)) [c9] x.2.2.2 f3:=RIntSS.frame HR3.out fun b hb=>hu0.block b (HLT.out b (m3 b hb))
 have hfA3:∀ b ∈ f3,Free (w.alloc (Obj.cells #[c0,c1,c2,c3,c4,c5,c6,c7,c8,c9] 43)) b:=fun b hb=>(HF.out b (m3 b hb)).frame (hu0.block b (HLT.out b (m3 b hb)))
 have hlA3:∀ b ∈ f3,b < (w.alloc (Obj.cells #[c0,c1,c2,c3,c4,c5,c6,c7,c8,c9] 43)).heap.size:=fun b hb=>Nat.lt_of_lt_of_le (HLT.out b (m3 b hb)) hu0.size
 have HRA3:=Lib.hid hrA3; have HFA3:=Lib.hid hfA3; have HLA3:=Lib.hid hlA3; clear hrA3 hfA3 hlA3
 go_wp2_with fail
 refine (markScene_any _ _ _ _ _ _ _ _ _ f0 _ HRA0.out nd0 HFA0.out (by omega) (by omega)).mono ?_
 rintro e w1 ⟨v,rfl,rfl,hm1,hu1⟩
 have HMM1:=Lib.hid hm1; clear hm1
 have hcb1:∀ o,w1.cell? ⟨w.heap.size,o,none⟩=(w.alloc (Obj.cells #[c0,c1,c2,c3,c4,c5,c6,c7,c8,c9] 43)).cell? ⟨w.heap.size,o,none⟩:=fun o=>hu1.cell (by simp) (fun hb=>absurd (HLT.out _ (m0 _ hb)) (by omega)) o
 have hs1:w.heap.size < w1.heap.size:=Nat.lt_of_lt_of_le (by simp) hu1.size
 have hrB1:RSliceS.rep w1 [c7] x.2.1 f1:=Rp.upto HRA1.out hu1 n10
 have hfB1:∀ b ∈ f1,Free w1 b:=fun b hb=>(HFA1.out b hb).frame (hu1.block b (HLA1.out b hb) (n10 b hb))
 have hlB1:∀ b ∈ f1,b < w1.heap.size:=fun b hb=>Nat.lt_of_lt_of_le (HLA1.out b hb) hu1.size
 have HRB1:=Lib.hid hrB1; have HFB1:=Lib.hid hfB1; have HLB1:=Lib.hid hlB1; clear hrB1 hfB1 hlB1
 have hrB2:RIntS.rep w1 [c8] x.2.2.1 f2:=Rp.upto HRA2.out hu1 n20
 have hfB2:∀ b ∈ f2,Free w1 b:=fun b hb=>(HFA2.out b hb).frame (hu1.block b (HLA2.out b hb) (n20 b hb))
 have hlB2:∀ b ∈ f2,b < w1.heap.size:=fun b hb=>Nat.lt_of_lt_of_le (HLA2.out b hb) hu1.size
 have HRB2:=Lib.hid hrB2; have HFB2:=Lib.hid hfB2; have HLB2:=Lib.hid hlB2; clear hrB2 hfB2 hlB2
 have hrB3:RIntSS.rep w1 [c9] x.2.2.2 f3:=Rp.upto HRA3.out hu1 n30
 have hfB3:∀ b ∈ f3,Free w1 b:=fun b hb=>(HFA3.out b hb).frame (hu1.block b (HLA3.out b hb) (n30 b hb))
 have hlB3:∀ b ∈ f3,b < w1.heap.size:=fun b hb=>Nat.lt_of_lt_of_le (HLA3.out b hb) hu1.size
 have HRB3:=Lib.hid hrB3; have HFB3:=Lib.hid hfB3; have HLB3:=Lib.hid hlB3; clear hrB3 hfB3 hlB3
 go_wp2_with fail
 refine (markSliceS_any _ _ _ f1 _ HRB1.out nd1 HFB1.out (by omega) (by omega)).mono ?_
 rintro e w2 ⟨v,rfl,rfl,hm2,hu2⟩
 have HMM2:=Lib.hid hm2; clear hm2
 have hcb2:∀ o,w2.cell? ⟨w.heap.size,o,none⟩=(w.alloc (Obj.cells #[c0,c1,c2,c3,c4,c5,c6,c7,c8,c9] 43)).cell? ⟨w.heap.size,o,none⟩:=fun o=>(hu2.cell hs1 (fun hb=>absurd (HLT.out _ (m1 _ hb)) (by omega)) o).trans (hcb1 o)
 have hs2:w.heap.size < w2.heap.size:=Nat.lt_of_lt_of_le hs1 hu2.size
 have hrC2:RIntS.rep w2 [c8] x.2.2.1 f2:=Rp.upto HRB2.out hu2 n21
 have hfC2:∀ b ∈ f2,Free w2 b:=fun b hb=>(HFB2.out b hb).frame (hu2.block b (HLB2.out b hb) (n21 b hb))
 have hlC2:∀ b ∈ f2,b < w2.heap.size:=fun b hb=>Nat.lt_of_lt_of_le (HLB2.out b hb) hu2.size
 have HRC2:=Lib.hid hrC2; have HFC2:=Lib.hid hfC2; have HLC2:=Lib.hid hlC2; clear hrC2 hfC2 hlC2
 have hrC3:RIntSS.rep w2 [c9] x.2.2.2 f3:=Rp.upto HRB3.out hu2 n31
 have hfC3:∀ b ∈ f3,Free w2 b:=fun b hb=>(HFB3.out b hb).frame (hu2.block b (HLB3.out b hb) (n31 b hb))
 have hlC3:∀ b ∈ f3,b < w2.heap.size:=fun b hb=>Nat.lt_of_lt_of_le (HLB3.out b hb) hu2.size
 have HRC3:=Lib.hid hrC3; have HFC3:=Lib.hid hfC3; have HLC3:=Lib.hid hlC3; clear hrC3 hfC3 hlC3
 go_wp2_with fail
 refine (markIntS_any _ _ _ f2 _ HRC2.out nd2 HFC2.out (by omega) (by omega)).mono ?_
 rintro e w3 ⟨v,rfl,rfl,hm3,hu3⟩
 have HMM3:=Lib.hid hm3; clear hm3
 have hcb3:∀ o,w3.cell? ⟨w.heap.size,o,none⟩=(w.alloc (Obj.cells #[c0,c1,c2,c3,c4,c5,c6,c7,c8,c9] 43)).cell? ⟨w.heap.size,o,none⟩:=fun o=>(hu3.cell hs2 (fun hb=>absurd (HLT.out _ (m2 _ hb)) (by omega)) o).trans (hcb2 o)
 have hs3:w.heap.size < w3.heap.size:=Nat.lt_of_lt_of_le hs2 hu3.size
 have hrD3:RIntSS.rep w3 [c9] x.2.2.2 f3:=Rp.upto HRC3.out hu3 n32
 have hfD3:∀ b ∈ f3,Free w3 b:=fun b hb=>(HFC3.out b hb).frame (hu3.block b (HLC3.out b hb) (n32 b hb))
 have hlD3:∀ b ∈ f3,b < w3.heap.size:=fun b hb=>Nat.lt_of_lt_of_le (HLC3.out b hb) hu3.size
 have HRD3:=Lib.hid hrD3; have HFD3:=Lib.hid hfD3; have HLD3:=Lib.hid hlD3; clear hrD3 hfD3 hlD3
 go_wp2_with fail
 refine (markIntSS_any _ _ _ f3 _ HRD3.out nd3 HFD3.out (by omega) (by omega)).mono ?_
 rintro e w4 ⟨v,rfl,rfl,hm4,hu4⟩
 have HMM4:=Lib.hid hm4; clear hm4
 go_wp2
 go_ret
 exact ⟨_,rfl,congrArg (Value.int .i64) HEND.out,(rep_pair (Rp.upto (Rp.upto (Rp.upto HMM1.out hu2 n01) hu3 n02) hu4 n03) (rep_pair (Rp.upto (Rp.upto HMM2.out hu3 n12) hu4 n13) (rep_pair (Rp.upto HMM3.out hu4 n23) HMM4.out))),(((((Upto.of_below hu0 (Nat.le_refl _)).trans (hu1.mono fun b hb=>m0 b hb)).trans (hu2.mono fun b hb=>m1 b hb)).trans (hu3.mono fun b hb=>m2 b hb)).trans (hu4.mono fun b hb=>m3 b hb))⟩
namespace DW
theorem markRoad_fn (x:DRoad) (k:Int) (h0:0<=k) (h1:k+cnRoad x<=1073741824):FnM Tryz.prog 13 DW.tRoad x (mkRoad x k) k (k+cnRoad x):=by
 refine FnM.of (enters Tryz.func13 rfl rfl) (small_I64 (by omega) h1) fun w v cs fp hp hx hn hf=>?_
 obtain rfl:=pk_agg rfl hp
 obtain ⟨c0,c1,c2,c3,c4,c5,c6,c7,c8,c9,rfl⟩:=list10 (RRoad.len hx)
 exact markRoad_any _ _ _ _ _ _ _ _ _ _ x k fp w hx hn hf h0 h1
@[go_sem] theorem mkRoad_s0 (x:DRoad) (k:Int):(mkRoad x k).1.1=x.1.1:=(rfl)
@[go_sem] theorem mkRoad_s1 (x:DRoad) (k:Int):(mkRoad x k).1.2.1=x.1.2.1:=(rfl)
end DW
theorem ecRat_le (x:DRat):ecRat x<=tRat x+1:=by
 show 1+x.1.2.length+x.2.length<=(x.1.2.length+x.2.length)+1
 omega
theorem cnCellS_le:∀ x:DCellS,cnCellS x<=7 * (x.length+tCellS x)
 | []=>Nat.zero_le _
 | x :: l=>by
  have h:=cnCellS_le l
  have h0:=ecRat_le x.1
  have h1:=ecRat_le x.2.1
  have h2:=ecRat_le x.2.2.1
  have h3:=ecRat_le x.2.2.2.1
  have h4:=ecRat_le x.2.2.2.2.1
  have h5:=ecRat_le x.2.2.2.2.2
  rw [cnCellS,tCellS,List.length_cons]
  unfold ecCell tCell
  omega
theorem cnWallS_le:∀ x:DWallS,cnWallS x<=7 * (x.length+tWallS x)
 | []=>Nat.zero_le _
 | x :: l=>by
  have h:=cnWallS_le l
  have h0:=ecRat_le x.1
  have h1:=ecRat_le x.2.1
  have h2:=ecRat_le x.2.2
  rw [cnWallS,tWallS,List.length_cons]
  unfold ecWall tWall
  omega
theorem cnDoorS_le:∀ x:DDoorS,cnDoorS x<=2 * x.length
 | []=>Nat.zero_le _
 | x :: l=>by
  have h:=cnDoorS_le l
  rw [cnDoorS,List.length_cons]
  unfold ecDoor
  omega
theorem cnIntSS_le:∀ x:DIntSS,cnIntSS x<=tIntSS x
 | []=>Nat.zero_le _
 | x :: l=>by
  have h:=cnIntSS_le l
  rw [cnIntSS,tIntSS]
  omega
theorem cnSliceS_le:∀ x:DSliceS,cnSliceS x<=7 * (x.length+tSliceS x)
 | []=>Nat.zero_le _
 | x :: l=>by
  have h:=cnSliceS_le l
  have h0:=DW.cnVecSS_le x.2.2.2.1
  have h1:=cnCellS_le x.2.2.2.2.1
  have h2:=cnWallS_le x.2.2.2.2.2.1
  have h3:=cnDoorS_le x.2.2.2.2.2.2.1
  rw [cnSliceS,tSliceS,List.length_cons]
  unfold ecSlice tSlice ecBox ecVec
  omega
theorem cnRoad_le (x:DRoad):cnRoad x<=7 * tRoad x:=by
 have h0:=cnScene_le x.1
 have h1:=cnSliceS_le x.2.1
 have h2:=cnIntSS_le x.2.2.2
 unfold cnRoad tRoad
 omega
end Go.Proofs.YtpdiggaapdhffaaGreat
