/-
  Texts of a proof, one behind another: Dw18, Dw21, Dw23, Dw24, Hl1, Dw40, Dw42, Dw43, Rw1, So0, So1, Cp1, Cp2, Dw44, Dw14, Dw15, Cn, CnO, Dw22, Dw17, Dw28, LwA, Ints, Own, Copy, PtOr, Dw19, Dw41, Hv1, Hv2, Hv3, ArIn, Dw25, Dw45, Dw84, Same, Sz, To, Eq, Mark, Held, LwH, Dw26, Dw27, Dw46, Dw47, Hs1, Dw85, Dw48, Dw49, Dw50.
-/
import Derived.Shelf.GgSortFunc.InsertionK
import Derived.Shelf.SlSortCmp.NoneTotal
import Derived.Lib.SlicesCompact
import Derived.Shelf.RegionOpenPlain
import Derived.WalkKit
import Derived.Deep.LoopGhost
import Derived.Deep.Draws
import Derived.Lib.Walk
import Derived.Sort.WalkB12
import Derived.Lib.SliceRun
import Derived.Deep.AppendLies
import Derived.Test.YtbnkojgcbmfloaaGreatProg
import Derived.Deep.RegionHeld3
import Derived.Deep.RegionLaw
import Derived.Test.YtbnkojgcbmfloaaGreatKL3
set_option linter.all false
set_option maxRecDepth 100000
namespace Go.Proofs.YtbnkojgcbmfloaaGreat.DW
open Go.RowKit
attribute [go_sem] Prod.eta
abbrev DP:Type:=DR × DR
noncomputable def okPt (p:DP):Bool:=okR p.1 && okR p.2
theorem implIsValidPoint_fn (p:DP):Fn Tryz.prog 77 [⟨tPoint,p⟩] false [⟨.bool,okPt p⟩]:=by
 cases h:okR p.1
 ·refine fe Tryz.func77 Tryz.ntmps77 Tryz.results77 fun hwf=>?_
  try simp (maxSteps:=9^9) only[go_sem]
  repeat refine AI ?_
  refine cw (implRatOk_fn p.1) ?_
  try simp (maxSteps:=9^9) only[go_sem]
  try simp (maxSteps:=9^9) only[go_sem,h]
  repeat refine AI ?_
  simp [okPt,h]
 ·refine fe Tryz.func77 Tryz.ntmps77 Tryz.results77 fun hwf=>?_
  try simp (maxSteps:=9^9) only[go_sem]
  repeat refine AI ?_
  refine cw (implRatOk_fn p.1) ?_
  try simp (maxSteps:=9^9) only[go_sem]
  try simp (maxSteps:=9^9) only[go_sem,h]
  repeat refine AI ?_
  refine cw (implRatOk_fn p.2) ?_
  try simp (maxSteps:=9^9) only[go_sem]
  repeat refine AI ?_
  simp [okPt,h]
theorem indexFunc_pt_fn (F:FuncId) (p:DP->Bool) (hF:∀ x:DP,Fn Tryz.prog F [⟨tPoint,x⟩] false [⟨.bool,p x⟩]) (l:List DP):Fn Tryz.prog 111 [⟨.slice tPoint,l⟩,⟨.cst (.fn F),()⟩] false [⟨.int,ixf (t:=tPoint) p l⟩]:=by
 refine fe Tryz.func111 Tryz.ntmps111 Tryz.results111 fun hwf=>?_
 have hl:l.length<=9223372036854775807:=(hwf ⟨.slice tPoint,l⟩ (by simp)).1
 try simp (maxSteps:=9^9) only[go_sem]
 refine LoopG.intro _ _ _ (fun i:Nat=>⟨[(0,.sl tPoint l),(1,.sc (.func (.func F) #[] #[])),(7,.sc (.int .i64 l.length)),(8,.sc (.int .i64 i))],[]⟩) (fun i=>∀ j < i,j < l.length->p (nth (t:=tPoint) l j)=false) (fun i=>l.length - i) 0 ?_ (fun j h=>by simp at h) ?_
 ·exact WK
 ·rintro i h2
  try simp (maxSteps:=9^9) only[go_sem]
  refine CondW_dec (fun h3=>?_) (fun h3=>?_)
  ·try simp (maxSteps:=9^9) only[go_sem]
   repeat refine AI ?_
   repeat refine AI ?_
   refine cw (hF (nth (t:=tPoint) l i)) ?_
   try simp (maxSteps:=9^9) only[go_sem]
   refine CondW_b (fun h4=>?_) (fun h4=>?_)
   ·try simp (maxSteps:=9^9) only[go_sem]
    exact (ixf_at (by omega) h4 (fun j hj=>h2 j hj (by omega))).symm
   ·try simp (maxSteps:=9^9) only[go_sem]
    repeat refine AI ?_
    refine LoopK.mk (i+1) ?_ (fun j hj hl=>?_) (by omega)
    ·exact WK
    ·by_cases hj2:j < i
     ·exact h2 j hj2 hl
     ·rw [show j=i by omega]; exact h4
  ·try simp (maxSteps:=9^9) only[go_sem]
   exact (ixf_none fun j hj=>h2 j (by omega) hj).symm
theorem containsFunc_pt_fn (F:FuncId) (p:DP->Bool) (hF:∀ x:DP,Fn Tryz.prog F [⟨tPoint,x⟩] false [⟨.bool,p x⟩]) (l:List DP):Fn Tryz.prog 75 [⟨.slice tPoint,l⟩,⟨.cst (.fn F),()⟩] false [⟨.bool,l.any p⟩]:=by
 refine fe Tryz.func75 Tryz.ntmps75 Tryz.results75 fun hwf=>?_
 try simp (maxSteps:=9^9) only[go_sem]
 repeat refine AI ?_
 refine cw (indexFunc_pt_fn F p hF l) ?_
 try simp (maxSteps:=9^9) only[go_sem]
 exact ixf_any
theorem arePointsC_fn (p:DP):Fn Tryz.prog 76 [⟨tPoint,p⟩] false [⟨.bool,!okPt p⟩]:=by
 refine fe Tryz.func76 Tryz.ntmps76 Tryz.results76 fun hwf=>?_
 try simp (maxSteps:=9^9) only[go_sem]
 repeat refine AI ?_
 refine cw (implIsValidPoint_fn p) ?_
 try simp (maxSteps:=9^9) only[go_sem]
theorem arePoints_fn (l:List DP):Fn Tryz.prog 47 [⟨.slice tPoint,l⟩] false [⟨.bool,!(l.any fun p=>!okPt p)⟩]:=by
 refine fe Tryz.func47 Tryz.ntmps47 Tryz.results47 fun hwf=>?_
 try simp (maxSteps:=9^9) only[go_sem]
 repeat refine AI ?_
 refine cw (containsFunc_pt_fn _ _ arePointsC_fn l) ?_
 try simp (maxSteps:=9^9) only[go_sem]
theorem arePoints2_fn (p q:DP):Fn Tryz.prog 47 [⟨.slice tPoint,[p,q]⟩] false [⟨.bool,okPt p && okPt q⟩]:=by
 have h:=arePoints_fn [p,q]
 have e:(!([p,q].any fun p=>!okPt p))=(okPt p && okPt q):=by simp
 rw [e] at h; exact h
theorem arePoints1_fn (p:DP):Fn Tryz.prog 47 [⟨.slice tPoint,[p]⟩] false [⟨.bool,okPt p⟩]:=by
 have h:=arePoints_fn [p]
 have e:(!([p].any fun p=>!okPt p))=okPt p:=by simp
 rw [e] at h; exact h
abbrev DS:Type:=Int × DP
theorem isHeading_fn (n:Int):Fn Tryz.prog 46 [⟨.int,n⟩] false [⟨.bool,decide (0<=n/\n<=3)⟩]:=by
 refine fe Tryz.func46 Tryz.ntmps46 Tryz.results46 fun hwf=>?_
 try simp (maxSteps:=9^9) only[go_sem]
 repeat refine AI ?_
 refine cw (within_fn n 0 3) ?_
 try simp (maxSteps:=9^9) only[go_sem]
def nxH (h t:Int):Int:=if (0<=h/\h<=3)/\(t=1\/t=-1) then (h+t+4) % 4 else -1
theorem nxH_bad {h:Int} (t:Int) (hh:¬ (0<=h/\h<=3)):nxH h t=-1:=if_neg fun h=>hh h.1
theorem nxH_off (h:Int) {t:Int} (h1:¬ t=1) (h2:¬ t=-1):nxH h t=-1:=if_neg fun h=>h.2.elim h1 h2
theorem nxH_in {h t:Int} (hh:0<=h/\h<=3) (ht:t=1\/t=-1):nxH h t=(h+t+4) % 4:=if_pos ⟨hh,ht⟩
theorem implNextHeading_fn (h t:Int):Fn Tryz.prog 79 [⟨.int,h⟩,⟨.int,t⟩] false [⟨.int,nxH h t⟩]:=by
 have c1:=isHeading_fn h
 by_cases hh:0<=h/\h<=3
 ·rw [decide_eq_true hh] at c1
  by_cases h1:t=1
  ·subst h1
   rw [nxH_in hh (.inl rfl)]
   refine fe Tryz.func79 Tryz.ntmps79 Tryz.results79 fun hwf=>?_
   try simp (maxSteps:=9^9) only[go_sem]
   repeat refine AI ?_
   refine cw c1 ?_
   try simp (maxSteps:=9^9) only[go_sem]
   repeat refine AI ?_
   refine RemW.pos (by omega) (by omega) ?_
   try simp (maxSteps:=9^9) only[go_sem]
  ·by_cases h2:t=-1
   ·subst h2
    rw [nxH_in hh (.inr rfl)]
    refine fe Tryz.func79 Tryz.ntmps79 Tryz.results79 fun hwf=>?_
    try simp (maxSteps:=9^9) only[go_sem]
    repeat refine AI ?_
    refine cw c1 ?_
    try simp (maxSteps:=9^9) only[go_sem]
    repeat refine AI ?_
    refine RemW.pos (by omega) (by omega) ?_
    try simp (maxSteps:=9^9) only[go_sem]
   ·rw [nxH_off h h1 h2]
    refine fe Tryz.func79 Tryz.ntmps79 Tryz.results79 fun hwf=>?_
    try simp (maxSteps:=9^9) only[go_sem]
    repeat refine AI ?_
    refine cw c1 ?_
    try simp (maxSteps:=9^9) only[go_sem]
    try simp (maxSteps:=9^9) only[go_sem,h1,h2]
 ·rw [decide_eq_false hh] at c1
  rw [nxH_bad t hh]
  refine fe Tryz.func79 Tryz.ntmps79 Tryz.results79 fun hwf=>?_
  try simp (maxSteps:=9^9) only[go_sem]
  repeat refine AI ?_
  refine cw c1 ?_
  try simp (maxSteps:=9^9) only[go_sem]
theorem specNextHeading_fn (h t:Int):Fn Tryz.prog 97 [⟨.int,h⟩,⟨.int,t⟩] false [⟨.int,nxH h t⟩]:=by
 have c1:=l01In_fn h 0 3
 by_cases hh:0<=h/\h<=3
 ·rw [decide_eq_true hh] at c1
  by_cases h1:t=1
  ·subst h1
   rw [nxH_in hh (.inl rfl),show h+1+4=h+4+1 by omega]
   refine fe Tryz.func97 Tryz.ntmps97 Tryz.results97 fun hwf=>?_
   try simp (maxSteps:=9^9) only[go_sem]
   repeat refine AI ?_
   refine cw c1 ?_
   try simp (maxSteps:=9^9) only[go_sem]
   repeat refine AI ?_
   refine RemW.pos (by omega) (by omega) ?_
   try simp (maxSteps:=9^9) only[go_sem]
  ·by_cases h2:t=-1
   ·subst h2
    rw [nxH_in hh (.inr rfl),show h+-1+4=h+4+-1 by omega]
    refine fe Tryz.func97 Tryz.ntmps97 Tryz.results97 fun hwf=>?_
    try simp (maxSteps:=9^9) only[go_sem]
    repeat refine AI ?_
    refine cw c1 ?_
    try simp (maxSteps:=9^9) only[go_sem]
    repeat refine AI ?_
    refine RemW.pos (by omega) (by omega) ?_
    try simp (maxSteps:=9^9) only[go_sem]
   ·rw [nxH_off h h1 h2]
    refine fe Tryz.func97 Tryz.ntmps97 Tryz.results97 fun hwf=>?_
    try simp (maxSteps:=9^9) only[go_sem]
    repeat refine AI ?_
    refine cw c1 ?_
    try simp (maxSteps:=9^9) only[go_sem]
    try simp (maxSteps:=9^9) only[go_sem,h1,h2]
 ·rw [decide_eq_false hh] at c1
  rw [nxH_bad t hh]
  refine fe Tryz.func97 Tryz.ntmps97 Tryz.results97 fun hwf=>?_
  try simp (maxSteps:=9^9) only[go_sem]
  repeat refine AI ?_
  refine cw c1 ?_
  try simp (maxSteps:=9^9) only[go_sem]
def stp (p x:DS):DS:=if x.1=0 then (p.1,x.2) else if x.1=1\/x.1=-1 then (nxH p.1 x.1,p.2) else p
theorem stp_0 {p x:DS} (h:x.1=0):stp p x=(p.1,x.2):=if_pos h
theorem stp_t {p x:DS} (h:x.1=1\/x.1=-1):stp p x=(nxH p.1 x.1,p.2):=by
 have:¬ x.1=0:=by omega
 unfold stp; rw [if_neg this,if_pos h]
theorem stp_n {p x:DS} (h0:¬ x.1=0) (h1:¬ x.1=1) (h2:¬ x.1=-1):stp p x=p:=by
 unfold stp; rw [if_neg h0,if_neg (by omega)]
theorem stepped_fn (p x:DS):Fn Tryz.prog 49 [⟨tStep,p⟩,⟨tStep,x⟩] false [⟨tStep,stp p x⟩]:=by
 obtain ⟨h,p⟩:=p
 obtain ⟨t,q⟩:=x
 have c1:=implNextHeading_fn h t
 by_cases h0:t=0
 ·subst h0
  rw [stp_0 rfl]
  refine fe Tryz.func49 Tryz.ntmps49 Tryz.results49 fun hwf=>?_
  try simp (maxSteps:=9^9) only[go_sem]
 ·by_cases h1:t=1
  ·subst h1
   rw [stp_t (.inl rfl)]
   refine fe Tryz.func49 Tryz.ntmps49 Tryz.results49 fun hwf=>?_
   try simp (maxSteps:=9^9) only[go_sem]
   repeat refine AI ?_
   refine cw c1 ?_
   try simp (maxSteps:=9^9) only[go_sem]
  ·by_cases h2:t=-1
   ·subst h2
    rw [stp_t (.inr rfl)]
    refine fe Tryz.func49 Tryz.ntmps49 Tryz.results49 fun hwf=>?_
    try simp (maxSteps:=9^9) only[go_sem]
    repeat refine AI ?_
    refine cw c1 ?_
    try simp (maxSteps:=9^9) only[go_sem]
   ·rw [stp_n h0 h1 h2]
    refine fe Tryz.func49 Tryz.ntmps49 Tryz.results49 fun hwf=>?_
    try simp (maxSteps:=9^9) only[go_sem,h0,h1,h2]
theorem l22After_fn (p x:DS):Fn Tryz.prog 64 [⟨tStep,p⟩,⟨tStep,x⟩] false [⟨tStep,stp p x⟩]:=by
 obtain ⟨h,p⟩:=p
 obtain ⟨t,q⟩:=x
 have c1:=specNextHeading_fn h t
 by_cases h0:t=0
 ·subst h0
  rw [stp_0 rfl]
  refine fe Tryz.func64 Tryz.ntmps64 Tryz.results64 fun hwf=>?_
  try simp (maxSteps:=9^9) only[go_sem]
 ·by_cases h1:t=1
  ·subst h1
   rw [stp_t (.inl rfl)]
   refine fe Tryz.func64 Tryz.ntmps64 Tryz.results64 fun hwf=>?_
   try simp (maxSteps:=9^9) only[go_sem]
   repeat refine AI ?_
   refine cw c1 ?_
   try simp (maxSteps:=9^9) only[go_sem]
  ·by_cases h2:t=-1
   ·subst h2
    rw [stp_t (.inr rfl)]
    refine fe Tryz.func64 Tryz.ntmps64 Tryz.results64 fun hwf=>?_
    try simp (maxSteps:=9^9) only[go_sem]
    repeat refine AI ?_
    refine cw c1 ?_
    try simp (maxSteps:=9^9) only[go_sem]
   ·rw [stp_n h0 h1 h2]
    refine fe Tryz.func64 Tryz.ntmps64 Tryz.results64 fun hwf=>?_
    try simp (maxSteps:=9^9) only[go_sem,h0,h1,h2]
abbrev DV:Type:=Int × Int
def inB (k:Int) (v:DV):Bool:=decide (-k<=v.1/\v.1<=k) && decide (-k<=v.2/\v.2<=k)
def okV (v:DV):Bool:=inB 1000 v
theorem okV_b {v:DV} (h:okV v=true):-1000<=v.1/\v.1<=1000/\-1000<=v.2/\v.2<=1000:=by
 unfold okV inB at h
 rw [Bool.and_eq_true,decide_eq_true_iff,decide_eq_true_iff] at h
 omega
theorem isVec_fn (v:DV):Fn Tryz.prog 145 [⟨tVec,v⟩] false [⟨.bool,okV v⟩]:=by
 have c1:=within_fn v.1 (-1000) 1000
 have c2:=within_fn v.2 (-1000) 1000
 unfold okV inB
 cases h:decide (-1000<=v.1/\v.1<=1000)<;>rw [h] at c1
 ·refine fe Tryz.func145 Tryz.ntmps145 Tryz.results145 fun hwf=>?_
  try simp (maxSteps:=9^9) only[go_sem]
  repeat refine AI ?_
  refine cw c1 ?_
  try simp (maxSteps:=9^9) only[go_sem]
 ·refine fe Tryz.func145 Tryz.ntmps145 Tryz.results145 fun hwf=>?_
  try simp (maxSteps:=9^9) only[go_sem]
  repeat refine AI ?_
  refine cw c1 ?_
  try simp (maxSteps:=9^9) only[go_sem]
  repeat refine AI ?_
  refine cw c2 ?_
  try simp (maxSteps:=9^9) only[go_sem]
theorem IsValidVec_fn (v:DV):Fn Tryz.prog 133 [⟨tVec,v⟩] false [⟨.bool,okV v⟩]:=by
 have c1:=l01In_fn v.1 (-1000) 1000
 have c2:=l01In_fn v.2 (-1000) 1000
 unfold okV inB
 cases h:decide (-1000<=v.1/\v.1<=1000)<;>rw [h] at c1
 ·refine fe Tryz.func133 Tryz.ntmps133 Tryz.results133 fun hwf=>?_
  try simp (maxSteps:=9^9) only[go_sem]
  repeat refine AI ?_
  refine cw c1 ?_
  try simp (maxSteps:=9^9) only[go_sem]
 ·refine fe Tryz.func133 Tryz.ntmps133 Tryz.results133 fun hwf=>?_
  try simp (maxSteps:=9^9) only[go_sem]
  repeat refine AI ?_
  refine cw c1 ?_
  try simp (maxSteps:=9^9) only[go_sem]
  repeat refine AI ?_
  refine cw c2 ?_
  try simp (maxSteps:=9^9) only[go_sem]
theorem mul_bd {x y:Int} (h1:-2000<=x) (h2:x<=2000) (h3:-2000<=y) (h4:y<=2000):-4000000<=x * y/\x * y<=4000000:=by
 have e1:0<=(2000 - x) * (2000 - y):=Int.mul_nonneg (by omega) (by omega)
 have e2:0<=(2000+x) * (2000+y):=Int.mul_nonneg (by omega) (by omega)
 have e3:0<=(2000 - x) * (2000+y):=Int.mul_nonneg (by omega) (by omega)
 have e4:0<=(2000+x) * (2000 - y):=Int.mul_nonneg (by omega) (by omega)
 simp only [Int.sub_mul,Int.add_mul,Int.mul_sub,Int.mul_add] at e1 e2 e3 e4
 omega
def trn (a b c:DV):Int:=(b.1 - a.1) * (c.2 - a.2) - (b.2 - a.2) * (c.1 - a.1)
theorem turn_fn (a b c:DV) (ha:okV a=true) (hb:okV b=true) (hc:okV c=true):Fn Tryz.prog 108 [⟨tVec,a⟩,⟨tVec,b⟩,⟨tVec,c⟩] false [⟨.int,trn a b c⟩]:=by
 have ha:=okV_b ha; have hb:=okV_b hb; have hc:=okV_b hc
 have m1:=mul_bd (x:=b.1 - a.1) (y:=c.2 - a.2) (by omega) (by omega) (by omega) (by omega)
 have m2:=mul_bd (x:=b.2 - a.2) (y:=c.1 - a.1) (by omega) (by omega) (by omega) (by omega)
 unfold trn
 refine fe Tryz.func108 Tryz.ntmps108 Tryz.results108 fun hwf=>?_
 try simp (maxSteps:=9^9) only[go_sem]
 all_goals repeat refine AI ?_
 all_goals first|kernel_rfl|omega|rfl
def trq (a b c:DV):Int:=if okV a && okV b && okV c then trn a b c else 0
theorem Turn_fn (a b c:DV):Fn Tryz.prog 136 [⟨tVec,a⟩,⟨tVec,b⟩,⟨tVec,c⟩] false [⟨.int,trq a b c⟩]:=by
 have c1:=IsValidVec_fn a
 have c2:=IsValidVec_fn b
 have c3:=IsValidVec_fn c
 unfold trq
 cases ha:okV a<;>rw [ha] at c1
 ·refine fe Tryz.func136 Tryz.ntmps136 Tryz.results136 fun hwf=>?_
  try simp (maxSteps:=9^9) only[go_sem]
  repeat refine AI ?_
  refine cw c1 ?_
  try simp (maxSteps:=9^9) only[go_sem]
 ·cases hb:okV b<;>rw [hb] at c2
  ·refine fe Tryz.func136 Tryz.ntmps136 Tryz.results136 fun hwf=>?_
   try simp (maxSteps:=9^9) only[go_sem]
   repeat refine AI ?_
   refine cw c1 ?_
   try simp (maxSteps:=9^9) only[go_sem]
   repeat refine AI ?_
   refine cw c2 ?_
   try simp (maxSteps:=9^9) only[go_sem]
  ·cases hc:okV c<;>rw [hc] at c3
   ·refine fe Tryz.func136 Tryz.ntmps136 Tryz.results136 fun hwf=>?_
    try simp (maxSteps:=9^9) only[go_sem]
    repeat refine AI ?_
    refine cw c1 ?_
    try simp (maxSteps:=9^9) only[go_sem]
    repeat refine AI ?_
    refine cw c2 ?_
    try simp (maxSteps:=9^9) only[go_sem]
    repeat refine AI ?_
    refine cw c3 ?_
    try simp (maxSteps:=9^9) only[go_sem]
   ·have ha:=okV_b ha; have hb:=okV_b hb; have hc:=okV_b hc
    have m1:=mul_bd (x:=b.1 - a.1) (y:=c.2 - a.2) (by omega) (by omega) (by omega) (by omega)
    have m2:=mul_bd (x:=b.2 - a.2) (y:=c.1 - a.1) (by omega) (by omega) (by omega) (by omega)
    unfold trn
    refine fe Tryz.func136 Tryz.ntmps136 Tryz.results136 fun hwf=>?_
    try simp (maxSteps:=9^9) only[go_sem]
    repeat refine AI ?_
    refine cw c1 ?_
    try simp (maxSteps:=9^9) only[go_sem]
    repeat refine AI ?_
    refine cw c2 ?_
    try simp (maxSteps:=9^9) only[go_sem]
    repeat refine AI ?_
    refine cw c3 ?_
    try simp (maxSteps:=9^9) only[go_sem]
    all_goals repeat refine AI ?_
    all_goals first|kernel_rfl|omega|rfl
theorem indexFunc_vec_fn (F:FuncId) (p:DV->Bool) (hF:∀ x:DV,Fn Tryz.prog F [⟨tVec,x⟩] false [⟨.bool,p x⟩]) (l:List DV):Fn Tryz.prog 151 [⟨.slice tVec,l⟩,⟨.cst (.fn F),()⟩] false [⟨.int,ixf (t:=tVec) p l⟩]:=by
 refine fe Tryz.func151 Tryz.ntmps151 Tryz.results151 fun hwf=>?_
 have hl:l.length<=9223372036854775807:=(hwf ⟨.slice tVec,l⟩ (by simp)).1
 try simp (maxSteps:=9^9) only[go_sem]
 refine LoopG.intro _ _ _ (fun i:Nat=>⟨[(0,.sl tVec l),(1,.sc (.func (.func F) #[] #[])),(7,.sc (.int .i64 l.length)),(8,.sc (.int .i64 i))],[]⟩) (fun i=>∀ j < i,j < l.length->p (nth (t:=tVec) l j)=false) (fun i=>l.length - i) 0 ?_ (fun j h=>by simp at h) ?_
 ·exact WK
 ·rintro i h2
  try simp (maxSteps:=9^9) only[go_sem]
  refine CondW_dec (fun h3=>?_) (fun h3=>?_)
  ·try simp (maxSteps:=9^9) only[go_sem]
   repeat refine AI ?_
   repeat refine AI ?_
   refine cw (hF (nth (t:=tVec) l i)) ?_
   try simp (maxSteps:=9^9) only[go_sem]
   refine CondW_b (fun h4=>?_) (fun h4=>?_)
   ·try simp (maxSteps:=9^9) only[go_sem]
    exact (ixf_at (by omega) h4 (fun j hj=>h2 j hj (by omega))).symm
   ·try simp (maxSteps:=9^9) only[go_sem]
    repeat refine AI ?_
    refine LoopK.mk (i+1) ?_ (fun j hj hl=>?_) (by omega)
    ·exact WK
    ·by_cases hj2:j < i
     ·exact h2 j hj2 hl
     ·rw [show j=i by omega]; exact h4
  ·try simp (maxSteps:=9^9) only[go_sem]
   exact (ixf_none fun j hj=>h2 j (by omega) hj).symm
theorem containsFunc_vec_fn (F:FuncId) (p:DV->Bool) (hF:∀ x:DV,Fn Tryz.prog F [⟨tVec,x⟩] false [⟨.bool,p x⟩]) (l:List DV):Fn Tryz.prog 109 [⟨.slice tVec,l⟩,⟨.cst (.fn F),()⟩] false [⟨.bool,l.any p⟩]:=by
 refine fe Tryz.func109 Tryz.ntmps109 Tryz.results109 fun hwf=>?_
 try simp (maxSteps:=9^9) only[go_sem]
 repeat refine AI ?_
 refine cw (indexFunc_vec_fn F p hF l) ?_
 try simp (maxSteps:=9^9) only[go_sem]
 exact ixf_any
theorem areVecsC_fn (v:DV):Fn Tryz.prog 144 [⟨tVec,v⟩] false [⟨.bool,!okV v⟩]:=by
 refine fe Tryz.func144 Tryz.ntmps144 Tryz.results144 fun hwf=>?_
 try simp (maxSteps:=9^9) only[go_sem]
 repeat refine AI ?_
 refine cw (isVec_fn v) ?_
 try simp (maxSteps:=9^9) only[go_sem]
theorem areVecs_fn (l:List DV):Fn Tryz.prog 103 [⟨.slice tVec,l⟩] false [⟨.bool,!(l.any fun v=>!okV v)⟩]:=by
 refine fe Tryz.func103 Tryz.ntmps103 Tryz.results103 fun hwf=>?_
 try simp (maxSteps:=9^9) only[go_sem]
 repeat refine AI ?_
 refine cw (containsFunc_vec_fn _ _ areVecsC_fn l) ?_
 try simp (maxSteps:=9^9) only[go_sem]
def nxt (n i:Nat):Int:=((i:Int)+1) % (n:Int)
def cornOK (l:List DV) (i k:Nat):Prop:=¬ (k:Int)=i->¬ (k:Int)=nxt l.length i->0 < trn (nth (t:=tVec) l i) (nth (t:=tVec) l (nxt l.length i).toNat) (nth (t:=tVec) l k)
def polyP (l:List DV):Prop:=(3<=(l.length:Int)/\(l.length:Int)<=16)/\(∀ v ∈ l,okV v=true)/\∀ i k,i < l.length->k < l.length->cornOK l i k
noncomputable def polyB (l:List DV):Bool:=@decide (polyP l) (Classical.propDecidable _)
theorem polyB_t {l:List DV} (h:polyP l):polyB l=true:=@decide_eq_true _ (Classical.propDecidable _) h
theorem polyB_f {l:List DV} (h:¬ polyP l):polyB l=false:=@decide_eq_false _ (Classical.propDecidable _) h
theorem any_okV {l:List DV} (h:(l.any fun v=>!okV v)=false):∀ v ∈ l,okV v=true:=by
 intro v hv
 rw [List.any_eq_false] at h
 simpa using h v hv
theorem nxt_rng {n i:Nat} (h:0 < n):0<=nxt n i/\nxt n i < n:=⟨Int.emod_nonneg _ (by omega),Int.emod_lt_of_pos _ (by omega)⟩
theorem nth_mem {l:List DV} {i:Nat} (h:i < l.length):nth (t:=tVec) l i ∈ l:=by rw [nth_lt h]; exact List.getElem_mem h
theorem implIsPolygon_fn (l:List DV):Fn Tryz.prog 73 [⟨.slice tVec,l⟩] false [⟨.bool,polyB l⟩]:=by
 have c1:=within_fn l.length 3 16
 have c2:=areVecs_fn l
 by_cases h1:3<=(l.length:Int)/\(l.length:Int)<=16
 ·rw [decide_eq_true h1] at c1
  cases h2:l.any fun v=>!okV v<;>rw [h2] at c2
  ·have hok:=any_okV h2
   have hN:0 < l.length:=by omega
   refine fe Tryz.func73 Tryz.ntmps73 Tryz.results73 fun hwf=>?_
   try simp (maxSteps:=9^9) only[go_sem]
   repeat refine AI ?_
   refine cw c1 ?_
   try simp (maxSteps:=9^9) only[go_sem]
   repeat refine AI ?_
   refine cw c2 ?_
   try simp (maxSteps:=9^9) only[go_sem]
   refine LoopG.intro _ _ _ (fun i:Nat=>⟨[(0,.sl tVec l),(3,.sc (.int .i64 l.length)),(19,.sl tVec l),(20,.sc (.int .i64 l.length)),(21,.sc (.int .i64 i))],[]⟩) (fun i=>∀ i' k,i' < i->i' < l.length->k < l.length->cornOK l i' k) (fun i=>l.length - i) 0 ?_ (fun i' k h=>absurd h (Nat.not_lt_zero _)) ?_
   ·exact WK
   ·rintro i hi
    have hr:=nxt_rng (i:=i) hN
    unfold nxt at hr
    try simp (maxSteps:=9^9) only[go_sem]
    refine CondW_dec (fun hA=>?_) (fun hA=>?_)
    ·try simp (maxSteps:=9^9) only[go_sem]
     repeat refine AI ?_
     refine RemW.pos (by omega) (by omega) ?_
     try simp (maxSteps:=9^9) only[go_sem]
     repeat refine AI ?_
     refine LoopG.intro _ _ _ (fun k:Nat=>⟨[(0,.sl tVec l),(3,.sc (.int .i64 l.length)),(19,.sl tVec l),(20,.sc (.int .i64 l.length)),(21,.sc (.int .i64 i)),(4,.sc (.int .i64 i)),(5,.ptr 0 0),(6,.ptr 1 0),(33,.sl tVec l),(34,.sc (.int .i64 l.length)),(35,.sc (.int .i64 k))],[(1,.box [.sc (.int .i64 (nth (t:=tVec) l (nxt l.length i).toNat).1),.sc (.int .i64 (nth (t:=tVec) l (nxt l.length i).toNat).2)]),(0,.box [.sc (.int .i64 (nth (t:=tVec) l i).1),.sc (.int .i64 (nth (t:=tVec) l i).2)])]⟩) (fun k=>∀ k',k' < k->k' < l.length->cornOK l i k') (fun k=>l.length - k) 0 ?_ (fun k h=>absurd h (Nat.not_lt_zero _)) ?_
     ·exact WK
     ·rintro k hk
      have hv:=turn_fn (nth (t:=tVec) l i) (nth (t:=tVec) l (nxt l.length i).toNat) (nth (t:=tVec) l k)
      have hi3:i < l.length:=by omega
      have oi:=hok _ (nth_mem hi3)
      have on:=hok _ (nth_mem (l:=l) (i:=(nxt l.length i).toNat) (by unfold nxt; omega))
      try simp (maxSteps:=9^9) only[go_sem]
      refine CondW_dec (fun hB=>?_) (fun hB=>?_)
      ·have hv:=hv oi on (hok _ (nth_mem (by omega)))
       have hgo:cornOK l i k->∀ k',k' < k+1->k' < l.length->cornOK l i k':=fun h k' h1 h2=>by
        by_cases h3:k' < k
        ·exact hk k' h3 h2
        ·rw [show k'=k by omega]; exact h
       by_cases e1:(k:Int)=i
       ·have d1:=decide_eq_true e1
        try simp (maxSteps:=9^9) only[go_sem,d1]
        repeat refine AI ?_
        refine LoopK.mk (k+1) ?_ (hgo fun h=>absurd e1 h) (by omega)
        exact WK
       ·have d1:=decide_eq_false e1
        by_cases e2:(k:Int)=((i:Int)+1) % (l.length:Int)
        ·have d2:=decide_eq_true e2
         try simp (maxSteps:=9^9) only[go_sem,d1]
         repeat refine AI ?_
         refine RemW.pos (by omega) (by omega) ?_
         try simp (maxSteps:=9^9) only[go_sem,d2]
         repeat refine AI ?_
         refine LoopK.mk (k+1) ?_ (hgo fun _ h=>absurd e2 h) (by omega)
         exact WK
        ·have d2:=decide_eq_false e2
         try simp (maxSteps:=9^9) only[go_sem,d1]
         repeat refine AI ?_
         refine RemW.pos (by omega) (by omega) ?_
         try simp (maxSteps:=9^9) only[go_sem,d2]
         repeat refine AI ?_
         refine cw hv ?_
         try simp (maxSteps:=9^9) only[go_sem]
         refine CondW_dec (fun e3=>?_) (fun e3=>?_)
         ·have:¬ polyP l:=fun h=>by
           have:=h.2.2 i k (by omega) (by omega) e1 e2
           omega
          rw [polyB_f this]
          try simp (maxSteps:=9^9) only[go_sem]
         ·try simp (maxSteps:=9^9) only[go_sem]
          repeat refine AI ?_
          refine LoopK.mk (k+1) ?_ (hgo fun _ _=>by omega) (by omega)
          exact WK
      ·try simp (maxSteps:=9^9) only[go_sem]
       repeat refine AI ?_
       refine LoopK.mk (i+1) ?_ (fun i' k' h1 h2 h3=>?_) (by omega)
       ·exact WK
       ·by_cases h4:i' < i
        ·exact hi i' k' h4 h2 h3
        ·rw [show i'=i by omega]; exact hk k' (by omega) h3
    ·have:polyP l:=⟨h1,hok,fun i' k h3 h4=>hi i' k (by omega) h3 h4⟩
     rw [polyB_t this]
     try simp (maxSteps:=9^9) only[go_sem]
  ·have:¬ polyP l:=fun h=>by
    have:=h.2.1
    rw [List.any_eq_true] at h2
    obtain ⟨v,hv,h3⟩:=h2
    rw [this v hv] at h3
    cases h3
   rw [polyB_f this]
   refine fe Tryz.func73 Tryz.ntmps73 Tryz.results73 fun hwf=>?_
   try simp (maxSteps:=9^9) only[go_sem]
   repeat refine AI ?_
   refine cw c1 ?_
   try simp (maxSteps:=9^9) only[go_sem]
   repeat refine AI ?_
   refine cw c2 ?_
   try simp (maxSteps:=9^9) only[go_sem]
 ·rw [decide_eq_false h1] at c1
  have:¬ polyP l:=fun h=>h1 h.1
  rw [polyB_f this]
  refine fe Tryz.func73 Tryz.ntmps73 Tryz.results73 fun hwf=>?_
  try simp (maxSteps:=9^9) only[go_sem]
  repeat refine AI ?_
  refine cw c1 ?_
  try simp (maxSteps:=9^9) only[go_sem]
def specOK (l:List DV) (i k:Nat):Prop:=okV (nth (t:=tVec) l k)=true/\(¬ (k:Int)=i->¬ (k:Int)=nxt l.length i->0 < trq (nth (t:=tVec) l i) (nth (t:=tVec) l (nxt l.length i).toNat) (nth (t:=tVec) l k))
theorem specOK_of {l:List DV} (h:polyP l) {i k:Nat} (hi:i < l.length) (hk:k < l.length):specOK l i k:=by
 have hr:=nxt_rng (n:=l.length) (i:=i) (by omega)
 refine ⟨h.2.1 _ (nth_mem hk),fun h1 h2=>?_⟩
 have h3:=h.2.2 i k hi hk h1 h2
 unfold trq
 rw [h.2.1 _ (nth_mem hi),h.2.1 _ (nth_mem hk),h.2.1 _ (nth_mem (i:=(nxt l.length i).toNat) (by omega))]
 exact h3
theorem polyP_of {l:List DV} (h0:3<=(l.length:Int)/\(l.length:Int)<=16) (h:∀ i k,i < l.length->k < l.length->specOK l i k):polyP l:=by
 have hv:∀ k,k < l.length->okV (nth (t:=tVec) l k)=true:=fun k hk=>(h 0 k (by omega) hk).1
 refine ⟨h0,fun v hm=>?_,fun i k hi hk h1 h2=>?_⟩
 ·obtain ⟨k,hk,rfl⟩:=List.getElem_of_mem hm
  have:=hv k hk
  rw [nth_lt hk] at this
  exact this
 ·have hr:=nxt_rng (n:=l.length) (i:=i) (by omega)
  have h3:=(h i k hi hk).2 h1 h2
  unfold trq at h3
  rw [hv i hi,hv k hk,hv (nxt l.length i).toNat (by omega)] at h3
  exact h3
theorem specIsPolygon_fn (l:List DV):Fn Tryz.prog 95 [⟨.slice tVec,l⟩] false [⟨.bool,polyB l⟩]:=by
 have c1:=l01In_fn l.length 3 16
 by_cases h1:3<=(l.length:Int)/\(l.length:Int)<=16
 ·rw [decide_eq_true h1] at c1
  have hN:0 < l.length:=by omega
  refine fe Tryz.func95 Tryz.ntmps95 Tryz.results95 fun hwf=>?_
  try simp (maxSteps:=9^9) only[go_sem]
  repeat refine AI ?_
  refine cw c1 ?_
  try simp (maxSteps:=9^9) only[go_sem]
  refine LoopG.intro _ _ _ (fun i:Nat=>⟨[(0,.sl tVec l),(3,.sc (.int .i64 l.length)),(14,.sl tVec l),(15,.sc (.int .i64 l.length)),(16,.sc (.int .i64 i))],[]⟩) (fun i=>∀ i' k,i' < i->i' < l.length->k < l.length->specOK l i' k) (fun i=>l.length - i) 0 ?_ (fun i' k h=>absurd h (Nat.not_lt_zero _)) ?_
  ·exact WK
  ·rintro i hi
   have hr:=nxt_rng (i:=i) hN
   unfold nxt at hr
   try simp (maxSteps:=9^9) only[go_sem]
   refine CondW_dec (fun hA=>?_) (fun hA=>?_)
   ·try simp (maxSteps:=9^9) only[go_sem]
    repeat refine AI ?_
    refine RemW.pos (by omega) (by omega) ?_
    try simp (maxSteps:=9^9) only[go_sem]
    repeat refine AI ?_
    refine LoopG.intro _ _ _ (fun k:Nat=>⟨[(0,.sl tVec l),(3,.sc (.int .i64 l.length)),(14,.sl tVec l),(15,.sc (.int .i64 l.length)),(16,.sc (.int .i64 i)),(4,.sc (.int .i64 i)),(5,.ptr 0 0),(6,.ptr 1 0),(28,.sl tVec l),(29,.sc (.int .i64 l.length)),(30,.sc (.int .i64 k))],[(1,.box [.sc (.int .i64 (nth (t:=tVec) l (nxt l.length i).toNat).1),.sc (.int .i64 (nth (t:=tVec) l (nxt l.length i).toNat).2)]),(0,.box [.sc (.int .i64 (nth (t:=tVec) l i).1),.sc (.int .i64 (nth (t:=tVec) l i).2)])]⟩) (fun k=>∀ k',k' < k->k' < l.length->specOK l i k') (fun k=>l.length - k) 0 ?_ (fun k h=>absurd h (Nat.not_lt_zero _)) ?_
    ·exact WK
    ·rintro k hk
     have hv:=Turn_fn (nth (t:=tVec) l i) (nth (t:=tVec) l (nxt l.length i).toNat) (nth (t:=tVec) l k)
     have hw:=IsValidVec_fn (nth (t:=tVec) l k)
     try simp (maxSteps:=9^9) only[go_sem]
     refine CondW_dec (fun hB=>?_) (fun hB=>?_)
     ·have hgo:specOK l i k->∀ k',k' < k+1->k' < l.length->specOK l i k':=fun h k' h1 h2=>by
       by_cases h3:k' < k
       ·exact hk k' h3 h2
       ·rw [show k'=k by omega]; exact h
      cases e0:okV (nth (t:=tVec) l k)<;>rw [e0] at hw
      ·have:¬ polyP l:=fun h=>by
        have:=h.2.1 _ (nth_mem (l:=l) (i:=k) (by omega))
        rw [e0] at this; cases this
       rw [polyB_f this]
       try simp (maxSteps:=9^9) only[go_sem]
       repeat refine AI ?_
       refine cw hw ?_
       try simp (maxSteps:=9^9) only[go_sem]
      ·by_cases e1:(k:Int)=i
       ·have d1:=decide_eq_true e1
        try simp (maxSteps:=9^9) only[go_sem]
        repeat refine AI ?_
        refine cw hw ?_
        try simp (maxSteps:=9^9) only[go_sem]
        try simp (maxSteps:=9^9) only[go_sem,d1]
        repeat refine AI ?_
        refine LoopK.mk (k+1) ?_ (hgo ⟨e0,fun h=>absurd e1 h⟩) (by omega)
        exact WK
       ·have d1:=decide_eq_false e1
        by_cases e2:(k:Int)=((i:Int)+1) % (l.length:Int)
        ·have d2:=decide_eq_true e2
         try simp (maxSteps:=9^9) only[go_sem]
         repeat refine AI ?_
         refine cw hw ?_
         try simp (maxSteps:=9^9) only[go_sem]
         try simp (maxSteps:=9^9) only[go_sem,d1]
         repeat refine AI ?_
         refine RemW.pos (by omega) (by omega) ?_
         try simp (maxSteps:=9^9) only[go_sem,d2]
         repeat refine AI ?_
         refine LoopK.mk (k+1) ?_ (hgo ⟨e0,fun _ h=>absurd e2 h⟩) (by omega)
         exact WK
        ·have d2:=decide_eq_false e2
         try simp (maxSteps:=9^9) only[go_sem]
         repeat refine AI ?_
         refine cw hw ?_
         try simp (maxSteps:=9^9) only[go_sem]
         try simp (maxSteps:=9^9) only[go_sem,d1]
         repeat refine AI ?_
         refine RemW.pos (by omega) (by omega) ?_
         try simp (maxSteps:=9^9) only[go_sem,d2]
         repeat refine AI ?_
         refine cw hv ?_
         try simp (maxSteps:=9^9) only[go_sem]
         refine CondW_dec (fun e3=>?_) (fun e3=>?_)
         ·have:¬ polyP l:=fun h=>by
           have:=(specOK_of h (i:=i) (k:=k) (by omega) (by omega)).2 e1 e2
           omega
          rw [polyB_f this]
          try simp (maxSteps:=9^9) only[go_sem]
         ·try simp (maxSteps:=9^9) only[go_sem]
          repeat refine AI ?_
          refine LoopK.mk (k+1) ?_ (hgo ⟨e0,fun _ _=>by omega⟩) (by omega)
          exact WK
     ·try simp (maxSteps:=9^9) only[go_sem]
      repeat refine AI ?_
      refine LoopK.mk (i+1) ?_ (fun i' k' h1 h2 h3=>?_) (by omega)
      ·exact WK
      ·by_cases h4:i' < i
       ·exact hi i' k' h4 h2 h3
       ·rw [show i'=i by omega]; exact hk k' (by omega) h3
   ·have:polyP l:=polyP_of h1 fun i' k h3 h4=>hi i' k (by omega) h3 h4
    rw [polyB_t this]
    try simp (maxSteps:=9^9) only[go_sem]
 ·rw [decide_eq_false h1] at c1
  have:¬ polyP l:=fun h=>h1 h.1
  rw [polyB_f this]
  refine fe Tryz.func95 Tryz.ntmps95 Tryz.results95 fun hwf=>?_
  try simp (maxSteps:=9^9) only[go_sem]
  repeat refine AI ?_
  refine cw c1 ?_
  try simp (maxSteps:=9^9) only[go_sem]
def ltV (a b:DV):Prop:=a.1 < b.1\/a.1=b.1/\a.2 < b.2
instance (a b:DV):Decidable (ltV a b):=by unfold ltV; infer_instance
theorem ltV_irrefl (a:DV):¬ ltV a a:=by unfold ltV; omega
theorem ltV_trans {a b c:DV} (h1:ltV a b) (h2:ltV b c):ltV a c:=by unfold ltV at *; omega
theorem ltV_tri (a b:DV):ltV a b\/a=b\/ltV b a:=by
 obtain ⟨a1,a2⟩:=a
 obtain ⟨b1,b2⟩:=b
 unfold ltV
 simp only [Prod.mk.injEq]
 omega
theorem ltV_asymm {a b:DV} (h:ltV a b):¬ ltV b a:=fun h2=>ltV_irrefl _ (ltV_trans h h2)
theorem srt_unique:∀ {l m:List DV},l.Pairwise ltV->m.Pairwise ltV->(∀ x,x ∈ l ↔ x ∈ m)->l=m
 | [],[],_,_,_=>rfl
 | [],b :: m,_,_,h=>absurd ((h b).2 List.mem_cons_self) (by simp)
 | a :: l,[],_,_,h=>absurd ((h a).1 List.mem_cons_self) (by simp)
 | a :: l,b :: m,h1,h2,h=>by
  rw [List.pairwise_cons] at h1 h2
  have hab:a=b:=by
   rcases List.mem_cons.1 ((h a).1 List.mem_cons_self) with e|e
   ·exact e
   ·rcases List.mem_cons.1 ((h b).2 List.mem_cons_self) with e2|e2
    ·exact e2.symm
    ·exact absurd (ltV_trans (h1.1 b e2) (h2.1 a e)) (ltV_irrefl _)
  subst hab
  refine congrArg (a :: ·) (srt_unique h1.2 h2.2 fun x=>⟨fun hx=>?_,fun hx=>?_⟩)
  ·rcases List.mem_cons.1 ((h x).1 (List.mem_cons_of_mem _ hx)) with e|e
   ·subst e; exact absurd (h1.1 _ hx) (ltV_irrefl _)
   ·exact e
  ·rcases List.mem_cons.1 ((h x).2 (List.mem_cons_of_mem _ hx)) with e|e
   ·subst e; exact absurd (h2.1 _ hx) (ltV_irrefl _)
   ·exact e
def cmpD:List DV->List DV
 | []=>[]
 | [a]=>[a]
 | a :: b :: l=>if a=b then cmpD (b :: l) else a :: cmpD (b :: l)
theorem cmpD_mem:∀ {l:List DV} {x:DV},x ∈ cmpD l ↔ x ∈ l
 | [],x=>by simp [cmpD]
 | [a],x=>by simp [cmpD]
 | a :: b :: l,x=>by
  have ih:=cmpD_mem (l:=b :: l) (x:=x)
  unfold cmpD
  split
  ·rename_i h; subst h; rw [ih]; simp
  ·rw [List.mem_cons,ih,List.mem_cons,List.mem_cons,List.mem_cons]
theorem cmpD_len:∀ {l:List DV},(cmpD l).length<=l.length
 | []=>by simp [cmpD]
 | [a]=>by simp [cmpD]
 | a :: b :: l=>by
  have ih:=cmpD_len (l:=b :: l)
  unfold cmpD
  split<;>simp only [List.length_cons] at ih ⊢<;>omega
theorem cmpD_srt:∀ {l:List DV},l.Pairwise (fun a b=>¬ ltV b a)->(cmpD l).Pairwise ltV
 | [],_=>by simp [cmpD]
 | [a],_=>by simp [cmpD]
 | a :: b :: l,h=>by
  rw [List.pairwise_cons] at h
  have ih:=cmpD_srt h.2
  unfold cmpD
  split
  ·exact ih
  ·rename_i hne
   refine List.pairwise_cons.2 ⟨fun x hx=>?_,ih⟩
   rw [cmpD_mem] at hx
   have hb:¬ ltV b a:=h.1 b List.mem_cons_self
   have hab:ltV a b:=by
    rcases ltV_tri a b with h|h|h
    ·exact h
    ·exact absurd h hne
    ·exact absurd h hb
   rcases List.mem_cons.1 hx with rfl|hx
   ·exact hab
   ·rcases ltV_tri b x with h3|h3|h3
    ·exact ltV_trans hab h3
    ·exact h3 ▸ hab
    ·exact absurd h3 ((List.pairwise_cons.1 h.2).1 x hx)
def cfV (a b:DV):Int:=if a.1=b.1 then a.2 - b.2 else a.1 - b.1
theorem cfV_lt (a b:DV):cfV a b < 0 ↔ ltV a b:=by
 unfold cfV ltV
 split<;>omega
def leB (a b:DV):Bool:=!decide (cfV b a < 0)
theorem leB_iff (a b:DV):leB a b=true ↔ ¬ ltV b a:=by
 unfold leB
 rw [Bool.not_eq_true',decide_eq_false_iff_not,cfV_lt]
def srtD (l:List DV):List DV:=cmpD (l.mergeSort leB)
theorem srtD_mem {l:List DV} {x:DV}:x ∈ srtD l ↔ x ∈ l:=by
 unfold srtD
 rw [cmpD_mem,List.mem_mergeSort]
theorem srtD_srt (l:List DV):(srtD l).Pairwise ltV:=by
 refine cmpD_srt ?_
 have h:=List.pairwise_mergeSort (le:=leB) (fun a b c h1 h2=>by
  rw [leB_iff] at *
  intro h
  rcases ltV_tri b a with h3|h3|h3
  ·exact h1 h3
  ·subst h3; exact h2 h
  ·exact h2 (ltV_trans h h3)) (fun a b=>by
  rcases ltV_tri a b with h|h|h
  ·rw [Bool.or_eq_true]; exact .inl ((leB_iff a b).2 (ltV_asymm h))
  ·subst h; rw [Bool.or_eq_true]; exact .inl ((leB_iff a a).2 (ltV_irrefl _))
  ·rw [Bool.or_eq_true]; exact .inr ((leB_iff b a).2 (ltV_asymm h))) l
 exact h.imp fun {a b} h=>(leB_iff a b).1 h
theorem srtD_len (l:List DV):(srtD l).length<=l.length:=by
 unfold srtD
 have:=cmpD_len (l:=l.mergeSort leB)
 rw [List.length_mergeSort] at this
 exact this
theorem srtD_eq {l m:List DV} (h1:m.Pairwise ltV) (h2:∀ x,x ∈ m ↔ x ∈ l):m=srtD l:=srt_unique h1 (srtD_srt l) fun x=>by rw [h2,srtD_mem]
def insD (p:DV):List DV->List DV
 | []=>[p]
 | a :: l=>if ltV a p then a :: insD p l else if a=p then a :: l else p :: a :: l
theorem insD_mem {p x:DV}:∀ {l:List DV},x ∈ insD p l ↔ x=p\/x ∈ l
 | []=>by simp [insD]
 | a :: l=>by
  have ih:=insD_mem (p:=p) (x:=x) (l:=l)
  unfold insD
  split
  ·rw [List.mem_cons,ih,List.mem_cons]; constructor
   ·rintro (h|h|h)
    ·exact .inr (.inl h)
    ·exact .inl h
    ·exact .inr (.inr h)
   ·rintro (h|h|h)
    ·exact .inr (.inl h)
    ·exact .inl h
    ·exact .inr (.inr h)
  ·split
   ·rename_i h; subst h; simp
   ·simp
theorem insD_srt {p:DV}:∀ {l:List DV},l.Pairwise ltV->(insD p l).Pairwise ltV
 | [],_=>by simp [insD]
 | a :: l,h=>by
  have h':=h
  rw [List.pairwise_cons] at h
  unfold insD
  split
  ·rename_i hlt
   refine List.pairwise_cons.2 ⟨fun x hx=>?_,insD_srt h.2⟩
   rcases insD_mem.1 hx with rfl|hx
   ·exact hlt
   ·exact h.1 x hx
  ·split
   ·exact h'
   ·rename_i h1 h2
    have hp:ltV p a:=by
     rcases ltV_tri a p with h3|h3|h3
     ·exact absurd h3 h1
     ·exact absurd h3 h2
     ·exact h3
    refine List.pairwise_cons.2 ⟨fun x hx=>?_,h'⟩
    rcases List.mem_cons.1 hx with rfl|hx
    ·exact hp
    ·exact ltV_trans hp (h.1 x hx)
theorem insD_at {p:DV}:∀ {l:List DV} {i:Nat},i<=l.length->(∀ j,j < i->ltV (nth (t:=tVec) l j) p)->(i < l.length->¬ ltV (nth (t:=tVec) l i) p) →
  insD p l=if i < l.length/\nth (t:=tVec) l i=p then l else l.take i++p :: l.drop i
 | [],0,_,_,_=>by simp [insD]
 | [],i+1,h,_,_=>by simp at h
 | a :: l,0,_,_,h2=>by
  have h2:¬ ltV a p:=h2 (by simp)
  have e:nth (t:=tVec) (a :: l) 0=a:=rfl
  unfold insD
  rw [if_neg h2,e]
  by_cases h3:a=p
  ·rw [if_pos h3,if_pos ⟨by simp,h3⟩]
  ·rw [if_neg h3,if_neg fun h=>h3 h.2]; rfl
 | a :: l,i+1,hi,h1,h2=>by
  have e:∀ j,nth (t:=tVec) (a :: l) (j+1)=nth (t:=tVec) l j:=fun j=>by simp [nth]
  have h0:ltV a p:=h1 0 (by omega)
  have ih:=insD_at (p:=p) (l:=l) (i:=i) (by simp only [List.length_cons] at hi; omega) (fun j hj=>by rw [<-e]; exact h1 (j+1) (by omega)) (fun hj=>by rw [<-e]; exact h2 (by simp only [List.length_cons]; omega))
  unfold insD
  rw [if_pos h0,ih,e]
  by_cases h3:i < l.length/\nth (t:=tVec) l i=p
  ·rw [if_pos h3,if_pos ⟨by simp only [List.length_cons]; omega,h3.2⟩]
  ·rw [if_neg h3,if_neg fun h=>h3 ⟨by have:=h.1; simp only [List.length_cons] at this; omega,h.2⟩]; rfl
def srtI (l:List DV) (i:Nat):List DV:=(l.take i).foldl (fun s p=>insD p s) []
theorem srtI_step {l:List DV} {i:Nat} (h:i < l.length):srtI l (i+1)=insD (nth (t:=tVec) l i) (srtI l i):=by
 unfold srtI
 rw [nth_lt h,List.take_succ_eq_append_getElem h,List.foldl_append]; rfl
theorem ins_fold:∀ {l s:List DV},s.Pairwise ltV->(l.foldl (fun s p=>insD p s) s).Pairwise ltV/\∀ x,x ∈ l.foldl (fun s p=>insD p s) s ↔ x ∈ l\/x ∈ s
 | [],s,h=>⟨h,fun x=>by simp⟩
 | p :: l,s,h=>by
  obtain ⟨h1,h2⟩:=ins_fold (l:=l) (insD_srt (p:=p) h)
  refine ⟨h1,fun x=>?_⟩
  rw [List.foldl_cons,h2,insD_mem,List.mem_cons]
  constructor
  ·rintro (h|h|h)
   ·exact .inl (.inr h)
   ·exact .inl (.inl h)
   ·exact .inr h
  ·rintro ((h|h)|h)
   ·exact .inr (.inl h)
   ·exact .inl h
   ·exact .inr (.inr h)
theorem srtI_all (l:List DV):srtI l l.length=srtD l:=by
 unfold srtI
 rw [List.take_length]
 obtain ⟨h1,h2⟩:=ins_fold (l:=l) (s:=[]) List.Pairwise.nil
 exact srtD_eq h1 fun x=>by rw [h2]; simp
theorem insD_len {p:DV}:∀ {l:List DV},(insD p l).length<=l.length+1
 | []=>by simp [insD]
 | a :: l=>by
  have ih:=insD_len (p:=p) (l:=l)
  unfold insD
  split
  ·simp only [List.length_cons]; omega
  ·split<;>simp only [List.length_cons]<;>omega
theorem srtI_len (l:List DV):∀ i,(srtI l i).length<=i
 | 0=>by simp [srtI]
 | i+1=>by
  by_cases h:i < l.length
  ·rw [srtI_step h]
   have:=insD_len (p:=nth (t:=tVec) l i) (l:=srtI l i)
   have:=srtI_len l i
   omega
  ·have:srtI l (i+1)=srtI l i:=by
    unfold srtI; rw [List.take_of_length_le (by omega),List.take_of_length_le (by omega)]
   rw [this]
   have:=srtI_len l i
   omega
def popD (v:DV):List DV->List DV
 | b :: a :: l=>if trn a b v<=0 then popD v (a :: l) else b :: a :: l
 | l=>l
theorem popD_len {v:DV}:∀ {l:List DV},(popD v l).length<=l.length
 | []=>Nat.le_refl _
 | [a]=>Nat.le_refl _
 | b :: a :: l=>by
  unfold popD
  split
  ·exact Nat.le_trans popD_len (by simp)
  ·exact Nat.le_refl _
theorem popD_sub {v x:DV}:∀ {l:List DV},x ∈ popD v l->x ∈ l
 | [],h=>h
 | [a],h=>h
 | b :: a :: l,h=>by
  unfold popD at h
  split at h
  ·exact List.mem_cons_of_mem _ (popD_sub h)
  ·exact h
def chR (l:List DV):List DV:=l.foldl (fun c v=>v :: popD v c) []
def chRi (l:List DV) (i:Nat):List DV:=chR (l.take i)
theorem chRi_step {l:List DV} {i:Nat} (h:i < l.length):chRi l (i+1)=nth (t:=tVec) l i :: popD (nth (t:=tVec) l i) (chRi l i):=by
 unfold chRi chR
 rw [nth_lt h,List.take_succ_eq_append_getElem h,List.foldl_append]; rfl
theorem chRi_len (l:List DV):∀ i,(chRi l i).length<=i
 | 0=>by simp [chRi,chR]
 | i+1=>by
  by_cases h:i < l.length
  ·rw [chRi_step h,List.length_cons]
   have:=popD_len (v:=nth (t:=tVec) l i) (l:=chRi l i)
   have:=chRi_len l i
   omega
  ·have:chRi l (i+1)=chRi l i:=by
    unfold chRi; rw [List.take_of_length_le (by omega),List.take_of_length_le (by omega)]
   rw [this]
   have:=chRi_len l i
   omega
theorem chRi_mem {l:List DV} {x:DV}:∀ {i:Nat},x ∈ chRi l i->x ∈ l
 | 0,h=>by simp [chRi,chR] at h
 | i+1,h=>by
  by_cases hi:i < l.length
  ·rw [chRi_step hi] at h
   rcases List.mem_cons.1 h with rfl|h
   ·exact nth_mem hi
   ·exact chRi_mem (popD_sub h)
  ·have e:chRi l (i+1)=chRi l i:=by
    unfold chRi; rw [List.take_of_length_le (by omega),List.take_of_length_le (by omega)]
   rw [e] at h
   exact chRi_mem h
def chD (l:List DV):List DV:=(chR l).reverse.dropLast
def hullD (l:List DV):List DV:=if (srtD l).length < 2 then srtD l else chD (srtD l)++chD (srtD l).reverse
def rot1 (v:DV):DV:=(-v.2,v.1)
def rotN:Nat->DV->DV
 | 0,v=>v
 | n+1,v=>rot1 (rotN n v)
theorem okV_of {v:DV} (h1:-1000<=v.1) (h2:v.1<=1000) (h3:-1000<=v.2) (h4:v.2<=1000):okV v=true:=by
 unfold okV inB
 rw [Bool.and_eq_true,decide_eq_true_iff,decide_eq_true_iff]
 exact ⟨⟨h1,h2⟩,h3,h4⟩
theorem okV_rot {v:DV} (h:okV v=true):∀ n,okV (rotN n v)=true
 | 0=>h
 | n+1=>by
  have:=okV_b (okV_rot h n)
  show okV (rot1 (rotN n v))=true
  unfold rot1
  exact okV_of (by simp only; omega) (by simp only; omega) (by simp only; omega) (by simp only; omega)
theorem turnVec_fn (v:DV) (k:Int) (hv:okV v=true) (hk:0<=k/\k<=3):Fn Tryz.prog 104 [⟨tVec,v⟩,⟨.int,k⟩] false [⟨tVec,rotN k.toNat v⟩]:=by
 have e:(k % 4+4) % 4=k:=by omega
 refine fe Tryz.func104 Tryz.ntmps104 Tryz.results104 fun hwf=>?_
 try simp (maxSteps:=9^9) only[go_sem]
 refine RemW.pos (by omega) (by decide) ?_
 try simp (maxSteps:=9^9) only[go_sem]
 repeat refine AI ?_
 refine RemW.pos (by omega) (by decide) ?_
 rw [e]
 try simp (maxSteps:=9^9) only[go_sem]
 refine LoopG.intro _ _ _ (fun i:Nat=>⟨[(2,.ptr 0 0),(4,.ptr 1 0),(8,.sc (.int .i64 k)),(9,.sc (.int .i64 i))],[(1,.box [.sc (.int .i64 0),.sc (.int .i64 0)]),(0,.box [.sc (.int .i64 (rotN i v).1),.sc (.int .i64 (rotN i v).2)])]⟩) (fun i=>i<=k.toNat) (fun i=>k.toNat - i) 0 ?_ (Nat.zero_le _) ?_
 ·exact WK
 ·rintro i hi
  have hb:=okV_b (okV_rot hv i)
  have hst:rotN (i+1) v=(-(rotN i v).2,(rotN i v).1):=rfl
  generalize rotN i v=u at hb hst ⊢
  obtain ⟨b1,b2,b3,b4⟩:=hb
  try simp (maxSteps:=9^9) only[go_sem]
  refine CondW_dec (fun hA=>?_) (fun hA=>?_)
  ·try simp (maxSteps:=9^9) only[go_sem]
   repeat refine AI ?_
   refine LoopK.mk (i+1) ?_ (by omega) (by omega)
   rw [hst]
   exact WK
  ·rw [show k.toNat=i by omega]
   try simp (maxSteps:=9^9) only[go_sem]
   all_goals repeat refine AI ?_
   all_goals first|kernel_rfl|omega|rfl
def mapi (f:DV->DV) (l:List DV) (i:Nat):List DV:=(l.take i).map f
theorem mapi_step {f:DV->DV} {l:List DV} {i:Nat} (h:i < l.length):mapi f l (i+1)=mapi f l i++[f (nth (t:=tVec) l i)]:=by
 unfold mapi
 rw [List.take_succ_eq_append_getElem h,nth_lt h,List.map_append]
 rfl
theorem mapi_len {f:DV->DV} {l:List DV} {i:Nat} (h:i<=l.length):(mapi f l i).length=i:=by
 unfold mapi
 rw [List.length_map,List.length_take]; omega
theorem mapi_all {f:DV->DV} {l:List DV} {i:Nat} (h:l.length<=i):mapi f l i=l.map f:=by
 unfold mapi
 rw [List.take_of_length_le h]
theorem any_okV_f {l:List DV} (h:∀ v ∈ l,okV v=true):(l.any fun v=>!okV v)=false:=by
 rw [List.any_eq_false]
 intro v hv
 rw [h v hv]; decide
theorem TurnPolygonI_fn (l:List DV) (k:Int) (hl:∀ v ∈ l,okV v=true) (hn:l.length<=1048576) (hk:0<=k/\k<=3):Fn Tryz.prog 70 [⟨.slice tVec,l⟩,⟨.int,k⟩] true [⟨.slice tVec,l.map (rotN k.toNat)⟩]:=by
 have c1:=areVecs_fn l
 rw [any_okV_f hl] at c1
 refine fe Tryz.func70 Tryz.ntmps70 Tryz.results70 fun hwf=>?_
 try simp (maxSteps:=9^9) only[go_sem]
 repeat refine AI ?_
 refine cw c1 ?_
 try simp (maxSteps:=9^9) only[go_sem]
 refine LoopG.intro _ _ _ (fun i:Nat=>⟨[(1,.sc (.int .i64 k)),(5,.row 0 0),(12,.sl tVec l),(13,.sc (.int .i64 l.length)),(14,.sc (.int .i64 i))],[(0,.row 61 tVec 0 true (mapi (rotN k.toNat) l i))]⟩) (fun i=>i<=l.length) (fun i=>l.length - i) 0 ?_ (Nat.zero_le _) ?_
 ·exact WK
 ·rintro i hi
  try simp (maxSteps:=9^9) only[go_sem]
  refine CondW_dec (fun hA=>?_) (fun hA=>?_)
  ·have hlt:i < l.length:=by omega
   have hml:=mapi_len (f:=rotN k.toNat) (l:=l) (i:=i) (by omega)
   have e:=mapi_step (f:=rotN k.toNat) hlt
   have c2:=turnVec_fn (nth (t:=tVec) l i) k (hl _ (nth_mem hlt)) hk
   try simp (maxSteps:=9^9) only[go_sem]
   repeat refine AI ?_
   repeat refine AI ?_
   refine cw c2 ?_
   try simp (maxSteps:=9^9) only[go_sem]
   try simp (maxSteps:=9^9) only[go_sem,hml]
   repeat refine AI ?_
   refine LoopK.mk (i+1) ?_ (by omega) (by omega)
   rw [e]
   refine Wk.mk [] ?_
   try simp (maxSteps:=9^9) only[go_sem]
   try (and_intros<;>first|rfl|omega|exact ⟨_,rfl⟩)
   all_goals (first|exact ⟨by omega,rfl⟩|exact ⟨rfl,rfl⟩)
  ·rw [mapi_all (by omega)]
   try simp (maxSteps:=9^9) only[go_sem]
def negV (v:DV):DV:=(-v.1,-v.2)
theorem NegatePolygonI_fn (l:List DV) (hl:∀ v ∈ l,okV v=true) (hn:l.length<=1048576):Fn Tryz.prog 102 [⟨.slice tVec,l⟩] true [⟨.slice tVec,l.map negV⟩]:=by
 have c1:=areVecs_fn l
 rw [any_okV_f hl] at c1
 refine fe Tryz.func102 Tryz.ntmps102 Tryz.results102 fun hwf=>?_
 try simp (maxSteps:=9^9) only[go_sem]
 repeat refine AI ?_
 refine cw c1 ?_
 try simp (maxSteps:=9^9) only[go_sem]
 refine LoopG.intro _ _ _ (fun i:Nat=>⟨[(3,.row 0 0),(10,.sl tVec l),(11,.sc (.int .i64 l.length)),(12,.sc (.int .i64 i))],[(0,.row 61 tVec 0 true (mapi negV l i))]⟩) (fun i=>i<=l.length) (fun i=>l.length - i) 0 ?_ (Nat.zero_le _) ?_
 ·exact WK
 ·rintro i hi
  try simp (maxSteps:=9^9) only[go_sem]
  refine CondW_dec (fun hA=>?_) (fun hA=>?_)
  ·have hlt:i < l.length:=by omega
   have hml:=mapi_len (f:=negV) (l:=l) (i:=i) (by omega)
   have e:=mapi_step (f:=negV) hlt
   have hb:=okV_b (hl _ (nth_mem hlt))
   obtain ⟨b1,b2,b3,b4⟩:=hb
   try simp (maxSteps:=9^9) only[go_sem]
   repeat refine AI ?_
   try simp (maxSteps:=9^9) only[go_sem,hml]
   repeat refine AI ?_
   refine LoopK.mk (i+1) ?_ (by omega) (by omega)
   rw [e]
   unfold negV
   refine Wk.mk [] ?_
   try simp (maxSteps:=9^9) only[go_sem]
   try (and_intros<;>first|rfl|omega|exact ⟨_,rfl⟩)
   all_goals (first|exact ⟨by omega,rfl⟩|exact ⟨rfl,rfl⟩)
  ·rw [mapi_all (by omega)]
   try simp (maxSteps:=9^9) only[go_sem]
def addV (v c:DV):DV:=(c.1+v.1,c.2+v.2)
theorem moved_fn (l:List DV) (v:DV) (hv:okV v=true) (hl:∀ v ∈ l,okV v=true) (hn:l.length<=1048576):Fn Tryz.prog 142 [⟨.slice tVec,l⟩,⟨tVec,v⟩] true [⟨.slice tVec,l.map (addV v)⟩]:=by
 obtain ⟨q1,q2,q3,q4⟩:=okV_b hv
 refine fe Tryz.func142 Tryz.ntmps142 Tryz.results142 fun hwf=>?_
 try simp (maxSteps:=9^9) only[go_sem]
 refine LoopG.intro _ _ _ (fun i:Nat=>⟨[(3,.ptr 0 0),(5,.row 1 0),(9,.sl tVec l),(10,.sc (.int .i64 l.length)),(11,.sc (.int .i64 i))],[(1,.row 61 tVec 0 true (mapi (addV v) l i)),(0,.box [.sc (.int .i64 v.1),.sc (.int .i64 v.2)])]⟩) (fun i=>i<=l.length) (fun i=>l.length - i) 0 ?_ (Nat.zero_le _) ?_
 ·exact WK
 ·rintro i hi
  try simp (maxSteps:=9^9) only[go_sem]
  refine CondW_dec (fun hA=>?_) (fun hA=>?_)
  ·have hlt:i < l.length:=by omega
   have hml:=mapi_len (f:=addV v) (l:=l) (i:=i) (by omega)
   have e:=mapi_step (f:=addV v) hlt
   obtain ⟨b1,b2,b3,b4⟩:=okV_b (hl _ (nth_mem hlt))
   try simp (maxSteps:=9^9) only[go_sem]
   repeat refine AI ?_
   try simp (maxSteps:=9^9) only[go_sem,hml]
   repeat refine AI ?_
   refine LoopK.mk (i+1) ?_ (by omega) (by omega)
   rw [e]
   unfold addV
   refine Wk.mk [] ?_
   try simp (maxSteps:=9^9) only[go_sem]
   try (and_intros<;>first|rfl|omega|exact ⟨_,rfl⟩)
   all_goals (first|exact ⟨by omega,rfl⟩|exact ⟨rfl,rfl⟩)
  ·rw [mapi_all (by omega)]
   try simp (maxSteps:=9^9) only[go_sem]
theorem rv_len (b a:DV) (r:List DV):(b :: a :: r).reverse.length=r.length+2:=by rw [List.length_reverse]; rfl
theorem nth_app {l m:List DV} {x:DV} (k:Nat) (h:k=l.length):nth (t:=tVec) (l++x :: m) k=x:=by
 subst h
 rw [nth_lt (by simp)]
 simp
theorem rv_a (b a:DV) (r:List DV):nth (t:=tVec) (b :: a :: r).reverse r.length=a:=by
 rw [List.reverse_cons,List.reverse_cons,List.append_assoc]
 exact nth_app _ (by simp)
theorem rv_b (b a:DV) (r:List DV):nth (t:=tVec) (b :: a :: r).reverse (r.length+1)=b:=by
 rw [List.reverse_cons,List.reverse_cons]
 exact nth_app _ (by simp)
theorem rv_take (b a:DV) (r:List DV):(b :: a :: r).reverse.take (r.length+1)=(a :: r).reverse:=by
 rw [List.reverse_cons,List.take_append_of_le_length (by simp),List.take_of_length_le (by simp)]
theorem popD_go {v b a:DV} {r:List DV} (h:trn a b v<=0):popD v (b :: a :: r)=popD v (a :: r):=by
 rw [popD,if_pos h]
theorem popD_end {v b a:DV} {r:List DV} (h:¬ trn a b v<=0):popD v (b :: a :: r)=b :: a :: r:=by
 rw [popD,if_neg h]
theorem popD_1 {v:DV} {s:List DV} (h:s.length<=1):popD v s=s:=by
 match s,h with
 | [],_=>rfl
 | [a],_=>rfl
def popOK (v:DV) (s0 s:List DV):Prop:=popD v s=popD v s0/\(∀ x ∈ s,okV x=true)/\s.length<=s0.length
theorem trq_ok {a b c:DV} (ha:okV a=true) (hb:okV b=true) (hc:okV c=true):trq a b c=trn a b c:=by
 unfold trq
 rw [ha,hb,hc]; rfl
theorem chain_fn (l:List DV) (hl:∀ v ∈ l,okV v=true) (h0:0 < l.length) (hn:l.length<=1048576):FnG Tryz.prog 182 [⟨.slice tVec,l⟩] 61 tVec (chD l):=by
 refine fnG_enter tabOK mixes Tryz.func182 rfl rfl _ Tryz.ntmps182 _ Tryz.results182 (by simp) fun hwf=>?_
 try simp (maxSteps:=9^9) only[go_sem]
 refine LoopG.intro _ _ _ (fun i:Nat=>⟨[(3,.row 0 0),(7,.sl tVec l),(8,.sc (.int .i64 l.length)),(9,.sc (.int .i64 i))],[(0,.row 61 tVec 0 true (chRi l i).reverse)]⟩) (fun i=>i<=l.length) (fun i=>l.length - i) 0 ?_ (Nat.zero_le _) ?_
 ·exact WK
 ·rintro i hi
  try simp (maxSteps:=9^9) only[go_sem]
  refine CondW_dec (fun hA=>?_) (fun hA=>?_)
  ·have hlt:i < l.length:=by omega
   have hv:=hl _ (nth_mem hlt)
   have hst:=chRi_step hlt
   have hcl:=chRi_len l i
   try simp (maxSteps:=9^9) only[go_sem]
   repeat refine AI ?_
   generalize hvv:nth (t:=tVec) l i=v at hv hst ⊢
   refine LoopG.intro _ _ _ (fun s:List DV=>⟨[(3,.row 0 0),(5,.ptr 1 0),(7,.sl tVec l),(8,.sc (.int .i64 l.length)),(9,.sc (.int .i64 i))],[(1,.box [.sc (.int .i64 v.1),.sc (.int .i64 v.2)]),(0,.row 61 tVec 0 true s.reverse)]⟩) (popOK v (chRi l i)) (fun s=>s.length) (chRi l i) ?_ ⟨rfl,fun x hx=>hl _ (chRi_mem hx),Nat.le_refl _⟩ ?_
   ·exact WK
   ·rintro s ⟨k1,k2,k3⟩
    by_cases h1:s.length<=1
    ·have hrl:s.reverse.length=s.length:=List.length_reverse
     have d1:=decide_eq_false (p:=(s.reverse.length:Int) > 1) (by omega)
     try simp (maxSteps:=9^9) only[go_sem,d1]
     repeat refine AI ?_
     refine LoopK.mk (i+1) ?_ (by omega) (by omega)
     rw [hst,<-k1,popD_1 h1,List.reverse_cons]
     refine Wk.mk [] ?_
     try simp (maxSteps:=9^9) only[go_sem]
     try (and_intros<;>first|rfl|omega|exact ⟨_,rfl⟩)
     all_goals (first|exact ⟨by omega,rfl⟩|exact ⟨rfl,rfl⟩)
    ·obtain ⟨b,a,r,rfl⟩:∃ b a r,s=b :: a :: r:=by
      match s,h1 with
      | b :: a :: r,_=>exact ⟨b,a,r,rfl⟩
      | [a],h=>exact absurd (Nat.le_refl _) h
      | [],h=>exact absurd (Nat.zero_le _) h
     have ea:=rv_a b a r
     have eb:=rv_b b a r
     have et:=rv_take b a r
     have hrl:=rv_len b a r
     have oa:=k2 a (by simp)
     have ob:=k2 b (by simp)
     have hrc:(b :: a :: r).reverse++[v]=(v :: b :: a :: r).reverse:=(List.reverse_cons ..).symm
     have hls:(b :: a :: r).length=r.length+2:=rfl
     generalize hw:(b :: a :: r).reverse=w at ea eb et hrl hrc ⊢
     have d1:=decide_eq_true (p:=(w.length:Int) > 1) (by omega)
     have e2:((w.length:Int) - 2).toNat=r.length:=by omega
     have e1:((w.length:Int) - 1).toNat=r.length+1:=by omega
     have c1:=turn_fn (nth (t:=tVec) w ((w.length:Int) - 2).toNat) (nth (t:=tVec) w ((w.length:Int) - 1).toNat) v (by rw [e2,ea]; exact oa) (by rw [e1,eb]; exact ob) hv
     try simp (maxSteps:=9^9) only[go_sem,d1]
     repeat refine AI ?_
     refine cw c1 ?_
     try simp (maxSteps:=9^9) only[go_sem]
     repeat refine AI ?_
     refine CondW_dec (fun hB=>?_) (fun hB=>?_)
     ·rw [e2,e1,ea,eb] at hB
      try simp (maxSteps:=9^9) only[go_sem]
      repeat refine AI ?_
      refine SlcW.cut (e:=61) (o:=true) ⟨rfl,rfl,?_⟩
      try simp (maxSteps:=9^9) only[go_sem]
      repeat refine AI ?_
      refine LoopK.mk (a :: r) ?_ ⟨(popD_go hB).symm.trans k1,fun x hx=>k2 x (List.mem_cons_of_mem _ hx),by simp at k3 ⊢; omega⟩ (by simp)
      rw [e1,et]
      refine Wk.mk [] ?_
      try simp (maxSteps:=9^9) only[go_sem]
      try (and_intros<;>first|rfl|omega|exact ⟨_,rfl⟩)
      all_goals (first|exact ⟨by omega,rfl⟩|exact ⟨rfl,rfl⟩|trace_state)
     ·rw [e2,e1,ea,eb] at hB
      try simp (maxSteps:=9^9) only[go_sem]
      repeat refine AI ?_
      refine LoopK.mk (i+1) ?_ (by omega) (by omega)
      rw [hst,<-k1,popD_end hB,hrc]
      refine Wk.mk [] ?_
      try simp (maxSteps:=9^9) only[go_sem]
      try (and_intros<;>first|rfl|omega|exact ⟨_,rfl⟩)
      all_goals (first|exact ⟨by omega,rfl⟩|exact ⟨rfl,rfl⟩)
  ·have hii:i=l.length:=by omega
   subst hii
   have hne:0 < (chRi l l.length).reverse.length:=by
    rw [List.length_reverse]
    have:=chRi_step (l:=l) (i:=l.length - 1) (by omega)
    rw [show l.length - 1+1=l.length by omega] at this
    rw [this]; simp
   have hcl:=chRi_len l l.length
   have hrl:(chRi l l.length).reverse.length=(chRi l l.length).length:=List.length_reverse
   have hcd:chD l=(chRi l l.length).reverse.take (((chRi l l.length).reverse.length:Int) - 1).toNat:=by
    unfold chD chRi
    rw [List.take_length,List.dropLast_eq_take]
    congr 1
    omega
   rw [hcd]
   generalize (chRi l l.length).reverse=w at hne hrl ⊢
   try simp (maxSteps:=9^9) only[go_sem]
   repeat refine AI ?_
   refine SlcW.cut (e:=61) (o:=true) ⟨rfl,rfl,?_⟩
   try simp (maxSteps:=9^9) only[go_sem]
   repeat refine AI ?_
   exact ⟨0,1,rfl,rfl⟩
theorem l06Chain_fn (l:List DV) (hl:∀ v ∈ l,okV v=true) (h0:0 < l.length) (hn:l.length<=1048576):Fn Tryz.prog 135 [⟨.slice tVec,l⟩] true [⟨.slice tVec,(chR l).reverse⟩]:=by
 refine fe Tryz.func135 Tryz.ntmps135 Tryz.results135 fun hwf=>?_
 try simp (maxSteps:=9^9) only[go_sem]
 refine LoopG.intro _ _ _ (fun i:Nat=>⟨[(3,.row 0 0),(7,.sl tVec l),(8,.sc (.int .i64 l.length)),(9,.sc (.int .i64 i))],[(0,.row 61 tVec 0 true (chRi l i).reverse)]⟩) (fun i=>i<=l.length) (fun i=>l.length - i) 0 ?_ (Nat.zero_le _) ?_
 ·exact WK
 ·rintro i hi
  try simp (maxSteps:=9^9) only[go_sem]
  refine CondW_dec (fun hA=>?_) (fun hA=>?_)
  ·have hlt:i < l.length:=by omega
   have hv:=hl _ (nth_mem hlt)
   have hst:=chRi_step hlt
   have hcl:=chRi_len l i
   try simp (maxSteps:=9^9) only[go_sem]
   repeat refine AI ?_
   generalize hvv:nth (t:=tVec) l i=v at hv hst ⊢
   refine LoopG.intro _ _ _ (fun s:List DV=>⟨[(3,.row 0 0),(5,.ptr 1 0),(7,.sl tVec l),(8,.sc (.int .i64 l.length)),(9,.sc (.int .i64 i))],[(1,.box [.sc (.int .i64 v.1),.sc (.int .i64 v.2)]),(0,.row 61 tVec 0 true s.reverse)]⟩) (popOK v (chRi l i)) (fun s=>s.length) (chRi l i) ?_ ⟨rfl,fun x hx=>hl _ (chRi_mem hx),Nat.le_refl _⟩ ?_
   ·exact WK
   ·rintro s ⟨k1,k2,k3⟩
    by_cases h1:s.length<=1
    ·have hrl:s.reverse.length=s.length:=List.length_reverse
     have d1:=decide_eq_false (p:=(s.reverse.length:Int) > 1) (by omega)
     try simp (maxSteps:=9^9) only[go_sem,d1]
     repeat refine AI ?_
     refine LoopK.mk (i+1) ?_ (by omega) (by omega)
     rw [hst,<-k1,popD_1 h1,List.reverse_cons]
     refine Wk.mk [] ?_
     try simp (maxSteps:=9^9) only[go_sem]
     try (and_intros<;>first|rfl|omega|exact ⟨_,rfl⟩)
     all_goals (first|exact ⟨by omega,rfl⟩|exact ⟨rfl,rfl⟩)
    ·obtain ⟨b,a,r,rfl⟩:∃ b a r,s=b :: a :: r:=by
      match s,h1 with
      | b :: a :: r,_=>exact ⟨b,a,r,rfl⟩
      | [a],h=>exact absurd (Nat.le_refl _) h
      | [],h=>exact absurd (Nat.zero_le _) h
     have ea:=rv_a b a r
     have eb:=rv_b b a r
     have et:=rv_take b a r
     have hrl:=rv_len b a r
     have oa:=k2 a (by simp)
     have ob:=k2 b (by simp)
     have hrc:(b :: a :: r).reverse++[v]=(v :: b :: a :: r).reverse:=(List.reverse_cons ..).symm
     have hls:(b :: a :: r).length=r.length+2:=rfl
     generalize hw:(b :: a :: r).reverse=w at ea eb et hrl hrc ⊢
     have d1:=decide_eq_true (p:=(w.length:Int) > 1) (by omega)
     have e2:((w.length:Int) - 2).toNat=r.length:=by omega
     have e1:((w.length:Int) - 1).toNat=r.length+1:=by omega
     have c1:=Turn_fn (nth (t:=tVec) w ((w.length:Int) - 2).toNat) (nth (t:=tVec) w ((w.length:Int) - 1).toNat) v
     rw [trq_ok (by rw [e2,ea]; exact oa) (by rw [e1,eb]; exact ob) hv] at c1
     try simp (maxSteps:=9^9) only[go_sem,d1]
     repeat refine AI ?_
     refine cw c1 ?_
     try simp (maxSteps:=9^9) only[go_sem]
     repeat refine AI ?_
     refine CondW_dec (fun hB=>?_) (fun hB=>?_)
     ·rw [e2,e1,ea,eb] at hB
      try simp (maxSteps:=9^9) only[go_sem]
      repeat refine AI ?_
      refine SlcW.cut (e:=61) (o:=true) ⟨rfl,rfl,?_⟩
      try simp (maxSteps:=9^9) only[go_sem]
      repeat refine AI ?_
      refine LoopK.mk (a :: r) ?_ ⟨(popD_go hB).symm.trans k1,fun x hx=>k2 x (List.mem_cons_of_mem _ hx),by simp at k3 ⊢; omega⟩ (by simp)
      rw [e1,et]
      refine Wk.mk [] ?_
      try simp (maxSteps:=9^9) only[go_sem]
      try (and_intros<;>first|rfl|omega|exact ⟨_,rfl⟩)
      all_goals (first|exact ⟨by omega,rfl⟩|exact ⟨rfl,rfl⟩|trace_state)
     ·rw [e2,e1,ea,eb] at hB
      try simp (maxSteps:=9^9) only[go_sem]
      repeat refine AI ?_
      refine LoopK.mk (i+1) ?_ (by omega) (by omega)
      rw [hst,<-k1,popD_end hB,hrc]
      refine Wk.mk [] ?_
      try simp (maxSteps:=9^9) only[go_sem]
      try (and_intros<;>first|rfl|omega|exact ⟨_,rfl⟩)
      all_goals (first|exact ⟨by omega,rfl⟩|exact ⟨rfl,rfl⟩)
  ·have hcr:(chR l).reverse=(chRi l i).reverse:=by
    unfold chRi
    rw [List.take_of_length_le (by omega)]
   rw [hcr]
   try simp (maxSteps:=9^9) only[go_sem]
theorem l06Less_fn (a b:DV):Fn Tryz.prog 134 [⟨tVec,a⟩,⟨tVec,b⟩] false [⟨.bool,decide (ltV a b)⟩]:=by
 by_cases h1:a.1 < b.1
 ·have d1:=decide_eq_true h1
  rw [decide_eq_true (p:=ltV a b) (.inl h1)]
  refine fe Tryz.func134 Tryz.ntmps134 Tryz.results134 fun hwf=>?_
  try simp (maxSteps:=9^9) only[go_sem,d1]
 ·have d1:=decide_eq_false h1
  by_cases h2:a.1=b.1
  ·have d2:=decide_eq_true h2
   have e:decide (ltV a b)=decide (a.2 < b.2):=by
    by_cases h3:a.2 < b.2
    ·rw [decide_eq_true h3,decide_eq_true (p:=ltV a b) (.inr ⟨h2,h3⟩)]
    ·rw [decide_eq_false h3,decide_eq_false (p:=ltV a b) (fun h=>by unfold ltV at h; omega)]
   rw [e]
   refine fe Tryz.func134 Tryz.ntmps134 Tryz.results134 fun hwf=>?_
   try simp (maxSteps:=9^9) only[go_sem,d1,d2]
  ·have d2:=decide_eq_false h2
   rw [decide_eq_false (p:=ltV a b) (fun h=>by unfold ltV at h; omega)]
   refine fe Tryz.func134 Tryz.ntmps134 Tryz.results134 fun hwf=>?_
   try simp (maxSteps:=9^9) only[go_sem,d1,d2]
def bkD (l:List DV) (n:Nat):List DV:=l.reverse.take n
theorem bkD_step {l:List DV} {n:Nat} (h:n < l.length):bkD l (n+1)=bkD l n++[nth (t:=tVec) l (l.length - 1 - n)]:=by
 unfold bkD
 rw [List.take_add_one,List.getElem?_eq_getElem (by rw [List.length_reverse]; exact h),List.getElem_reverse,nth_lt (by omega)]
 rfl
theorem bkD_len {l:List DV} {n:Nat} (h:n<=l.length):(bkD l n).length=n:=by
 unfold bkD; rw [List.length_take,List.length_reverse]; omega
theorem bkD_all {l:List DV} {n:Nat} (h:l.length<=n):bkD l n=l.reverse:=by
 unfold bkD; rw [List.take_of_length_le (by rw [List.length_reverse]; exact h)]
theorem hullD_lt3 {l:List DV} (h:(srtD l).length < 3):hullD l=srtD l:=by
 unfold hullD
 split
 ·rfl
 ·match hs:srtD l,h with
  | [],_=>rfl
  | [a],_=>exact absurd (show (srtD l).length < 2 by rw [hs]; exact Nat.lt_succ_self _) (by assumption)
  | [a,b],_=>rfl
theorem chD_take (l:List DV):chD l=(chR l).reverse.take ((chR l).reverse.length - 1):=List.dropLast_eq_take
theorem chR_len (l:List DV):(chR l).length<=l.length:=by
 have:=chRi_len l l.length
 unfold chRi at this
 rwa [List.take_length] at this
theorem chR_pos (l:List DV) (h:0 < l.length):0 < (chR l).length:=by
 have:=chRi_step (l:=l) (i:=l.length - 1) (by omega)
 rw [show l.length - 1+1=l.length by omega] at this
 unfold chRi at this
 rw [List.take_length] at this
 rw [this]; simp
set_option maxHeartbeats 1000000 in
theorem specHull_fn (l:List DV) (hl:∀ v ∈ l,okV v=true) (hn:l.length<=64):Fn Tryz.prog 94 [⟨.slice tVec,l⟩] true [⟨.slice tVec,hullD l⟩]:=by
 have d0:=decide_eq_false (p:=(l.length:Int) > 64) (by omega)
 refine fe Tryz.func94 Tryz.ntmps94 Tryz.results94 fun hwf=>?_
 try simp (maxSteps:=9^9) only[go_sem,d0]
 refine LoopG.intro _ _ _ (fun i:Nat=>⟨[(3,.row 0 0),(17,.sl tVec l),(18,.sc (.int .i64 l.length)),(19,.sc (.int .i64 i))],[(0,.row 61 tVec 0 true (srtI l i))]⟩) (fun i=>i<=l.length) (fun i=>l.length - i) 0 ?_ (Nat.zero_le _) ?_
 ·exact WK
 ·rintro i hi
  try simp (maxSteps:=9^9) only[go_sem]
  refine CondW_dec (fun hA=>?_) (fun hA=>?_)
  ·have hlt:i < l.length:=by omega
   have hv:=hl _ (nth_mem hlt)
   have hst:=srtI_step hlt
   have hcl:=srtI_len l i
   have c1:=IsValidVec_fn (nth (t:=tVec) l i)
   rw [hv] at c1
   generalize hvv:nth (t:=tVec) l i=v at hv hst c1 ⊢
   generalize hss:srtI l i=s at hst hcl ⊢
   try simp (maxSteps:=9^9) only[go_sem,hvv]
   repeat refine AI ?_
   repeat refine AI ?_
   refine cw c1 ?_
   try simp (maxSteps:=9^9) only[go_sem]
   refine LoopG.intro _ _ _ (fun j:Nat=>⟨[(3,.row 0 0),(5,.ptr 1 0),(6,.sc (.int .i64 j)),(17,.sl tVec l),(18,.sc (.int .i64 l.length)),(19,.sc (.int .i64 i))],[(1,.box [.sc (.int .i64 v.1),.sc (.int .i64 v.2)]),(0,.row 61 tVec 0 true s)]⟩) (fun j=>j<=s.length/\∀ j',j' < j->ltV (nth (t:=tVec) s j') v) (fun j=>s.length - j) 0 ?_ ⟨Nat.zero_le _,fun j h=>absurd h (Nat.not_lt_zero _)⟩ ?_
   ·exact WK
   ·rintro j ⟨k1,k2⟩
    have hins:=insD_at (p:=v) (l:=s) (i:=j) k1 k2
    have e5:s.take j++v :: s.drop j=s.take j++[v]++s.drop j:=by rw [List.append_assoc]; rfl
    have hlm:(s.take j).length=j:=by rw [List.length_take]; omega
    have hlm2:(s.take j++[v]).length=j+1:=by rw [List.length_append,hlm]; rfl
    have hlm3:(s.drop j).length=s.length - j:=List.length_drop
    by_cases hj:j < s.length
    ·have d1:=decide_eq_true (p:=(j:Int) < (s.length:Int)) (by omega)
     have c2:=l06Less_fn (nth (t:=tVec) s j) v
     by_cases hlt2:ltV (nth (t:=tVec) s j) v
     ·rw [decide_eq_true hlt2] at c2
      try simp (maxSteps:=9^9) only[go_sem,d1]
      repeat refine AI ?_
      refine cw c2 ?_
      try simp (maxSteps:=9^9) only[go_sem]
      repeat refine AI ?_
      refine LoopK.mk (j+1) ?_ ⟨by omega,fun j' hj'=>?_⟩ (by omega)
      ·exact WK
      ·by_cases h:j' < j
       ·exact k2 j' h
       ·rw [show j'=j by omega]; exact hlt2
     ·rw [decide_eq_false hlt2] at c2
      have hins:=hins fun _=>hlt2
      by_cases he:nth (t:=tVec) s j=v
      ·have e3:(decide ((nth (t:=tVec) s j).1=v.1) && decide ((nth (t:=tVec) s j).2=v.2))=true:=by rw [he]; simp
       rw [if_pos ⟨hj,he⟩] at hins
       try simp (maxSteps:=9^9) only[go_sem,d1]
       repeat refine AI ?_
       refine cw c2 ?_
       try simp (maxSteps:=9^9) only[go_sem]
       repeat refine AI ?_
       try simp (maxSteps:=9^9) only[go_sem,d1,e3]
       repeat refine AI ?_
       refine LoopK.mk (i+1) ?_ (by omega) (by omega)
       rw [hst,hins]
       exact WK
      ·have e3:(decide ((nth (t:=tVec) s j).1=v.1) && decide ((nth (t:=tVec) s j).2=v.2))=false:=by
        by_cases q1:(nth (t:=tVec) s j).1=v.1
        ·by_cases q2:(nth (t:=tVec) s j).2=v.2
         ·exact absurd (Prod.ext q1 q2) he
         ·rw [decide_eq_false q2,Bool.and_false]
        ·rw [decide_eq_false q1,Bool.false_and]
       rw [if_neg (fun h=>he h.2)] at hins
       try simp (maxSteps:=9^9) only[go_sem,d1]
       repeat refine AI ?_
       refine cw c2 ?_
       try simp (maxSteps:=9^9) only[go_sem]
       repeat refine AI ?_
       try simp (maxSteps:=9^9) only[go_sem,d1,e3]
       repeat refine AI ?_
       refine SlcW.keep ?_
       try simp (maxSteps:=9^9) only[go_sem]
       repeat refine AI ?_
       refine SlcW.keep ?_
       try simp (maxSteps:=9^9) only[go_sem,List.take_length]
       repeat refine AI ?_
       refine LoopK.mk (i+1) ?_ (by omega) (by omega)
       rw [hst,hins,e5]
       refine Wk.mk [(0,2)] ?_
       try simp (maxSteps:=9^9) only[go_sem]
       try (and_intros<;>first|rfl|omega|exact ⟨_,rfl⟩)
       all_goals (first|exact ⟨by omega,rfl⟩|exact ⟨rfl,rfl⟩)
    ·have d1:=decide_eq_false (p:=(j:Int) < (s.length:Int)) (by omega)
     have hins:=hins fun h=>absurd h hj
     rw [if_neg (fun h=>hj h.1)] at hins
     try simp (maxSteps:=9^9) only[go_sem,d1]
     repeat refine AI ?_
     try simp (maxSteps:=9^9) only[go_sem,d1]
     repeat refine AI ?_
     refine SlcW.keep ?_
     try simp (maxSteps:=9^9) only[go_sem]
     repeat refine AI ?_
     refine SlcW.keep ?_
     try simp (maxSteps:=9^9) only[go_sem,List.take_length]
     repeat refine AI ?_
     refine LoopK.mk (i+1) ?_ (by omega) (by omega)
     rw [hst,hins,e5]
     refine Wk.mk [(0,2)] ?_
     try simp (maxSteps:=9^9) only[go_sem]
     try (and_intros<;>first|rfl|omega|exact ⟨_,rfl⟩)
     all_goals (first|exact ⟨by omega,rfl⟩|exact ⟨rfl,rfl⟩)
  ·have hii:i=l.length:=by omega
   subst hii
   rw [srtI_all]
   have hsm:∀ v ∈ srtD l,okV v=true:=fun v hv=>hl v (srtD_mem.1 hv)
   have hsl:=srtD_len l
   by_cases h3:(srtD l).length < 3
   ·rw [hullD_lt3 h3]
    generalize srtD l=s at h3 hsl ⊢
    have d3:=decide_eq_true (p:=(s.length:Int) < 3) (by omega)
    try simp (maxSteps:=9^9) only[go_sem,d3]
   ·have hh:hullD l=chD (srtD l)++chD (srtD l).reverse:=by unfold hullD; rw [if_neg (by omega)]
    rw [hh,chD_take,chD_take]
    generalize srtD l=s at h3 hsl hsm ⊢
    have d3:=decide_eq_false (p:=(s.length:Int) < 3) (by omega)
    have hrl:s.reverse.length=s.length:=List.length_reverse
    have c3:=l06Chain_fn s hsm (by omega) (by omega)
    have c4:=l06Chain_fn s.reverse (fun v hv=>hsm v (List.mem_reverse.1 hv)) (by omega) (by omega)
    try simp (maxSteps:=9^9) only[go_sem,d3]
    repeat refine AI ?_
    refine LoopG.intro _ _ _ (fun n:Nat=>⟨[(3,.row 0 0),(8,.row 1 0),(9,.sc (.int .i64 ((s.length:Int) - 1 - n)))],[(1,.row 61 tVec 0 true (bkD s n)),(0,.row 61 tVec 0 true s)]⟩) (fun n=>n<=s.length) (fun n=>s.length - n) 0 ?_ (Nat.zero_le _) ?_
    ·exact WK
    ·rintro n hn2
     try simp (maxSteps:=9^9) only[go_sem]
     refine CondW_dec (fun hB=>?_) (fun hB=>?_)
     ·have hbl:=bkD_len (l:=s) (n:=n) (by omega)
      have hbs:=bkD_step (l:=s) (n:=n) (by omega)
      have ei:((s.length:Int) - 1 - n).toNat=s.length - 1 - n:=by omega
      try simp (maxSteps:=9^9) only[go_sem]
      repeat refine AI ?_
      rw [ei]
      try simp (maxSteps:=9^9) only[go_sem,hbl]
      repeat refine AI ?_
      refine LoopK.mk (n+1) ?_ (by omega) (by omega)
      rw [hbs]
      exact WK
     ·rw [bkD_all (by omega)]
      have q1:=chR_len s
      have q2:=chR_pos s (by omega)
      have q3:=chR_len s.reverse
      have q4:=chR_pos s.reverse (by omega)
      have q5:(chR s).reverse.length=(chR s).length:=List.length_reverse
      have q6:(chR s.reverse).reverse.length=(chR s.reverse).length:=List.length_reverse
      generalize (chR s).reverse=lo at c3 q5 ⊢
      generalize (chR s.reverse).reverse=hi at c4 q6 ⊢
      have e7:((lo.length:Int) - 1).toNat=lo.length - 1:=by omega
      have e8:((hi.length:Int) - 1).toNat=hi.length - 1:=by omega
      have q7:(lo.take (lo.length - 1)).length=lo.length - 1:=by rw [List.length_take]; omega
      have q8:(hi.take (hi.length - 1)).length=hi.length - 1:=by rw [List.length_take]; omega
      try simp (maxSteps:=9^9) only[go_sem]
      repeat refine AI ?_
      refine cw c3 ?_
      try simp (maxSteps:=9^9) only[go_sem]
      repeat refine AI ?_
      refine cw c4 ?_
      try simp (maxSteps:=9^9) only[go_sem]
      repeat refine AI ?_
      refine SlcW.keep ?_
      try simp (maxSteps:=9^9) only[go_sem]
      rw [e7]
      try simp (maxSteps:=9^9) only[go_sem,q7]
      repeat refine AI ?_
      refine SlcW.keep ?_
      try simp (maxSteps:=9^9) only[go_sem]
      rw [e8]
      try simp (maxSteps:=9^9) only[go_sem,q7,q8]
      repeat refine AI ?_
      try simp (maxSteps:=9^9) only[go_sem,q7,q8]
      omega
end Go.Proofs.YtbnkojgcbmfloaaGreat.DW

namespace Go.Proofs.YtbnkojgcbmfloaaGreat.DW
open Go.RowKit Go.Sort
def encV (x:Int × Int):List Value:=[.int .i64 x.1,.int .i64 x.2]
theorem rep_vec {w:World} {cs:List Value} {x:DV} {f:List Nat} (h:tVec.rp.rep w cs x f):cs=encV x/\f=[]/\I64 x.1/\I64 x.2:=by
 obtain ⟨c1,c2,f1,f2,rfl,rfl,⟨rfl,rfl,h1⟩,⟨rfl,rfl,h2⟩⟩:=h
 exact ⟨rfl,rfl,h1,h2⟩
theorem vec_rep {w:World} {x:DV} (h1:I64 x.1) (h2:I64 x.2):tVec.rp.rep w (encV x) x [] :=
 ⟨_,_,[],[],rfl,rfl,⟨rfl,rfl,h1⟩,⟨rfl,rfl,h2⟩⟩
theorem vec_size:tVec.rp.size=2:=rfl
theorem encV_at (x:DV) (j:Nat) (h:j < 2):(encV x)[j]? = some ((encV x)[j]!):=by
 match j,h with
 | 0,_=>rfl
 | 1,_=>rfl
theorem flat_at (l:List DV) {t:Nat} (h:t < l.length * 2):(flatK encV 2 l.toArray)[t]! = (encV (l[t / 2]'(by omega)))[t % 2]!:=by
 rw [get_flatK encV 2 l.toArray t (by simpa using h)]
 rw [getElem!_pos l.toArray (t / 2) (by simp; omega)]
 rfl
theorem row_in {base:Nat} {w:World} {e:TypeId} {v:Value} {l:List DV} {fps:List (List Nat)} (h:GrowF tVec.rp base w e v l fps) (h0:0 < l.length) :
  ∃ g cap cur,v=.slice (some ⟨g,0,none⟩) l.length cap/\base<=g/\w.heap[g]? = some (.cells cur e (0,0))/\l.length<=cap/\cap<=maxLen/\cur.size=cap * 2/\HoldsK encV 2 w g 0 l.toArray/\∀ x ∈ l,I64 x.1/\I64 x.2:=by
 obtain ⟨xs,⟨hxl,hor⟩,hfl,he⟩:=h
 rcases hor with ⟨_,hn⟩|⟨g,cap,cur,hv,hb,hg,hnc,hcm,hcs,htk⟩
 ·omega
 rw [vec_size] at hxl hcs htk
 refine ⟨g,cap,cur,hv,hb,hg,hnc,hcm,hcs,fun j hj=>?_,fun x hx=>?_⟩
 ·have hj2:j < l.length * 2:=by simpa using hj
  refine ⟨?_,frozen_of_row w g _ cur e hg⟩
  rw [Nat.zero_add,cell_of_row w g j cur e (0,0) hg,<-Array.getElem?_toList]
  show _=some ((flatK encV 2 l.toArray)[j]!)
  rw [flat_at l hj2]
  obtain ⟨f,cs,_,h2,h3⟩:=he (j / 2) (l[j / 2]'(by omega)) (List.getElem?_eq_getElem _)
  obtain ⟨rfl,_⟩:=rep_vec h2
  have:=h3 (j % 2) _ (encV_at _ (j % 2) (by omega))
  rw [vec_size,show j / 2 * 2+j % 2=j by omega,<-htk,List.getElem?_take,if_pos hj2] at this
  exact this
 ·obtain ⟨i,hi,rfl⟩:=List.getElem_of_mem hx
  obtain ⟨f,cs,_,h2,_⟩:=he i l[i] (List.getElem?_eq_getElem hi)
  exact (rep_vec h2).2.2
theorem row_out {base:Nat} {w w':World} {e:TypeId} {g cap n:Nat} {cur:Array Value} {os:Array Obj} {d:List DV} (hb:base<=g) (hg:w.heap[g]? = some (.cells cur e (0,0))) (hcs:cur.size=cap * 2) (hcm:cap<=maxLen) (hd:d.length<=cap) (hI:∀ x ∈ d,I64 x.1/\I64 x.2) (m:Nat) (hm:m<=d.length)
  (hw:w'=sortWorldK encV 2 w g 0 n d.toArray os) :
  GrowF tVec.rp base w' e (.slice (some ⟨g,0,none⟩) m cap) (d.take m) (List.replicate m [])/\w.grownBy w' (some g):=by
 have hgs:g < w.heap.size:=(Array.getElem?_eq_some_iff.1 hg).1
 have hg':w'.heap[g]? = some (.cells (Go.Sort.putCells id 0 (flatK encV 2 d.toArray) cur) e (0,0)):=by
  subst hw
  unfold sortWorldK putRowK putRow mapBlock grow
  have hsz:g < (Sort.ahead w n).heap.size:=hgs
  simp only [heap_ahead]
  rw [Array.getElem?_append_left (by rw [Array.size_modify]; exact hgs),Array.getElem?_modify,if_pos rfl,hg]
  rfl
 have hlt:(d.take m).length=m:=by rw [List.length_take]; omega
 have hcell:∀ t,t < d.length * 2->(Go.Sort.putCells id 0 (flatK encV 2 d.toArray) cur).toList[t]? = some ((flatK encV 2 d.toArray)[t]!):=by
  intro t ht
  rw [Array.getElem?_toList]
  unfold Go.Sort.putCells
  rw [Array.getElem?_mapIdx,Array.getElem?_eq_getElem (by omega:t < cur.size),Option.map_some,if_pos ⟨Nat.zero_le _,by rw [size_flatK]; simpa using ht⟩]
  rfl
 have hps:(Go.Sort.putCells id 0 (flatK encV 2 d.toArray) cur).size=cap * 2:=by unfold Go.Sort.putCells; rw [Array.size_mapIdx,hcs]
 refine ⟨⟨(Go.Sort.putCells id 0 (flatK encV 2 d.toArray) cur).toList.take (m * 2),⟨?_,.inr ⟨g,cap,_,?_,hb,hg',?_,hcm,hps,?_⟩⟩,?_,fun i x hx=>?_⟩,?_⟩
 ·rw [hlt,vec_size,List.length_take,Array.length_toList,hps]; omega
 ·rw [hlt]
 ·rw [hlt]; omega
 ·rw [hlt,vec_size]
 ·rw [hlt,List.length_replicate]
 ·have hi:i < m:=by have:=(List.getElem?_eq_some_iff.1 hx).1; omega
  rw [List.getElem?_take,if_pos hi] at hx
  obtain ⟨hid,hx⟩:=List.getElem?_eq_some_iff.1 hx
  subst hx
  obtain ⟨i1,i2⟩:=hI _ (List.getElem_mem hid)
  refine ⟨[],encV d[i],by simp [hi],vec_rep i1 i2,fun j v hj=>?_⟩
  have hj2:j < 2:=(List.getElem?_eq_some_iff.1 hj).1
  rw [vec_size,List.getElem?_take,if_pos (by omega),hcell _ (by omega),flat_at d (by omega)]
  have e1:(i * 2+j) / 2=i:=by omega
  have e2:(i * 2+j) % 2=j:=by omega
  simp only [e1,e2]
  rw [<-encV_at _ j hj2,hj]
 ·subst hw
  refine ⟨rfl,rfl,rfl,?_,fun k hk hne=>?_⟩
  ·rw [sortWorldK,size_grow]
   have:(putRowK encV 2 (Sort.ahead w n) g 0 d.toArray).heap.size=w.heap.size:=by unfold putRowK; rw [size_putRow]; rfl
   omega
  ·have hkg:g ≠ k:=fun h=>hne (by rw [h])
   unfold sortWorldK putRowK putRow mapBlock grow
   simp only [heap_ahead]
   rw [Array.getElem?_append_left (by rw [Array.size_modify]; exact hk),Array.getElem?_modify,if_neg hkg]
theorem FnR.of {P:Program} {f:FuncId} {xs:List Cst} {e:TypeId} {l l':List DV} (he:∀ vs w,(callFunc f vs).run P w=.ok (.enter f vs) w) (h0:0 < l.length) (ret:Bool) (d:(∀ x ∈ l,I64 x.1/\I64 x.2)->∀ (w:World) (g cap:Nat),g < w.heap.size->l.length<=cap->cap<=maxLen->HoldsK encV 2 w g 0 l.toArray →
   Calls P f (.slice (some ⟨g,0,none⟩) l.length cap :: xs.map Cst.val).toArray w fun en w'=>∃ (dd:List DV) (n:Nat) (os:Array Obj),en=.returned (if ret then .slice (some ⟨g,0,none⟩) l'.length cap else .tuple #[])/\(ret=false->l'.length=l.length)/\dd.length=l.length/\(∀ x ∈ dd,x ∈ l\/x=(0,0))/\l'=dd.take l'.length/\l'.length<=dd.length/\w'=sortWorldK encV 2 w g 0 n dd.toArray os):FnR P f xs e tVec l l' ret:=by
 refine ⟨he,rfl,fun w base v fps hone hgr=>?_⟩
 obtain ⟨g,cap,cur,rfl,hb,hg,hnc,hcm,hcs,hH,hI⟩:=row_in hgr h0
 refine (d hI w g cap (Array.getElem?_eq_some_iff.1 hg).1 hnc hcm hH).mono ?_
 rintro en w' ⟨dd,n,os,h1,h2,h3,h4,h5,h6,h7⟩
 have hI2:∀ x ∈ dd,I64 x.1/\I64 x.2:=fun x hx=>by
  rcases h4 x hx with h|rfl
  ·exact hI x h
  ·exact ⟨(by show I64 0; unfold I64; omega),(by show I64 0; unfold I64; omega)⟩
 obtain ⟨k1,k2⟩:=row_out (base:=base) hb hg hcs hcm (by omega) hI2 l'.length h6 h7
 rw [<-h5] at k1
 exact ⟨.slice (some ⟨g,0,none⟩) l'.length cap,_,h1,fun hr=>by rw [h2 hr],rfl,rfl,k1,k2⟩
end Go.Proofs.YtbnkojgcbmfloaaGreat.DW

namespace Go.Proofs.YtbnkojgcbmfloaaGreat.DW
open Go.RowKit Go.Shelf
def sortL_ren:Go.Shelf.Ren:=⟨fun|6=>179|14=>219|15=>220|20=>248|21=>249|22=>250|23=>251|24=>252|25=>253|26=>254|27=>255|28=>256|29=>257|46=>271|47=>272|48=>273|49=>274|50=>275|57=>277|n=>n,fun|0=>0|3=>3|4=>4|5=>5|9=>9|22=>27|23=>186|24=>61|25=>187|39=>145|45=>215|46=>216|47=>217|50=>208|53=>222|55=>224|66=>227|70=>231|76=>233|77=>234|n=>n,fun n=>n⟩
theorem sortL:SlLaysF0.n6 Tryz.prog sortL_ren where
 mixed:=by kernel_rfl
 f6:=⟨"slices.SortFunc[[]loop.example/g00811/impl.Vec,loop.example/g00811/impl.Vec]",by decide,Tryz.func179.trans (congrArg some (by kernel_rfl))⟩
 f14:=⟨"slices.pdqsortCmpFunc[loop.example/g00811/impl.Vec]",by decide,Tryz.func219.trans (congrArg some (by kernel_rfl))⟩
 f15:=Tryz.func220.trans (congrArg some (by kernel_rfl))
 f20:=⟨"slices.insertionSortCmpFunc[loop.example/g00811/impl.Vec]",by decide,Tryz.func248.trans (congrArg some (by kernel_rfl))⟩
 f21:=⟨"slices.heapSortCmpFunc[loop.example/g00811/impl.Vec]",by decide,Tryz.func249.trans (congrArg some (by kernel_rfl))⟩
 f22:=⟨"slices.breakPatternsCmpFunc[loop.example/g00811/impl.Vec]",by decide,Tryz.func250.trans (congrArg some (by kernel_rfl))⟩
 f23:=⟨"slices.choosePivotCmpFunc[loop.example/g00811/impl.Vec]",by decide,Tryz.func251.trans (congrArg some (by kernel_rfl))⟩
 f24:=⟨"slices.reverseRangeCmpFunc[loop.example/g00811/impl.Vec]",by decide,Tryz.func252.trans (congrArg some (by kernel_rfl))⟩
 f25:=⟨"slices.partialInsertionSortCmpFunc[loop.example/g00811/impl.Vec]",by decide,Tryz.func253.trans (congrArg some (by kernel_rfl))⟩
 f26:=⟨"slices.partitionEqualCmpFunc[loop.example/g00811/impl.Vec]",by decide,Tryz.func254.trans (congrArg some (by kernel_rfl))⟩
 f27:=⟨"slices.partitionCmpFunc[loop.example/g00811/impl.Vec]",by decide,Tryz.func255.trans (congrArg some (by kernel_rfl))⟩
 f28:=Tryz.func256.trans (congrArg some (by kernel_rfl))
 f29:=Tryz.func257.trans (congrArg some (by kernel_rfl))
 f46:=⟨"slices.siftDownCmpFunc[loop.example/g00811/impl.Vec]",by decide,Tryz.func271.trans (congrArg some (by kernel_rfl))⟩
 f47:=Tryz.func272.trans (congrArg some (by kernel_rfl))
 f48:=Tryz.func273.trans (congrArg some (by kernel_rfl))
 f49:=⟨"slices.medianAdjacentCmpFunc[loop.example/g00811/impl.Vec]",by decide,Tryz.func274.trans (congrArg some (by kernel_rfl))⟩
 f50:=⟨"slices.medianCmpFunc[loop.example/g00811/impl.Vec]",by decide,Tryz.func275.trans (congrArg some (by kernel_rfl))⟩
 f57:=⟨"slices.order2CmpFunc[loop.example/g00811/impl.Vec]",by decide,Tryz.func277.trans (congrArg some (by kernel_rfl))⟩
 t0:=Tryz.underlying0
 a0:=Tryz.isAgg0
 z0:=Tryz.sizeOf0
 v0:=Tryz.zeroValue0
 t3:=Tryz.underlying3
 a3:=Tryz.isAgg3
 z3:=Tryz.sizeOf3
 v3:=Tryz.zeroValue3
 t4:=Tryz.underlying4
 a4:=Tryz.isAgg4
 z4:=Tryz.sizeOf4
 v4:=Tryz.zeroValue4
 t5:=Tryz.underlying5
 a5:=Tryz.isAgg5
 z5:=Tryz.sizeOf5
 v5:=Tryz.zeroValue5
 t9:=Tryz.underlying9
 a9:=Tryz.isAgg9
 z9:=Tryz.sizeOf9
 v9:=Tryz.zeroValue9
 t22:=Tryz.underlying27
 a22:=Tryz.isAgg27
 z22:=Tryz.sizeOf27
 v22:=Tryz.zeroValue27
 t25:=Tryz.underlying187
 a25:=Tryz.isAgg187
 z25:=Tryz.sizeOf187
 v25:=Tryz.zeroValue187
 t39:=Tryz.underlying145
 a39:=Tryz.isAgg145
 z39:=Tryz.sizeOf145
 v39:=Tryz.zeroValue145
 t45:=Tryz.underlying215
 a45:=Tryz.isAgg215
 z45:=Tryz.sizeOf215
 v45:=Tryz.zeroValue215
 t46:=Tryz.underlying216
 a46:=Tryz.isAgg216
 z46:=Tryz.sizeOf216
 v46:=Tryz.zeroValue216
 t50:=Tryz.underlying208
 a50:=Tryz.isAgg208
 z50:=Tryz.sizeOf208
 v50:=Tryz.zeroValue208
 t53:=Tryz.underlying222
 a53:=Tryz.isAgg222
 z53:=Tryz.sizeOf222
 v53:=Tryz.zeroValue222
 t55:=Tryz.underlying224
 a55:=Tryz.isAgg224
 z55:=Tryz.sizeOf224
 v55:=Tryz.zeroValue224
 t66:=Tryz.underlying227
 a66:=Tryz.isAgg227
 z66:=Tryz.sizeOf227
 v66:=Tryz.zeroValue227
 t70:=Tryz.underlying231
 a70:=Tryz.isAgg231
 z70:=Tryz.sizeOf231
 v70:=Tryz.zeroValue231
 t76:=Tryz.underlying233
 a76:=Tryz.isAgg233
 z76:=Tryz.sizeOf233
 v76:=Tryz.zeroValue233
 t77:=Tryz.underlying234
 a77:=Tryz.isAgg234
 z77:=Tryz.sizeOf234
 v77:=Tryz.zeroValue234
def revL_ren:Go.Shelf.Ren:=⟨fun|35=>183|n=>n,fun|0=>0|3=>3|4=>4|22=>27|23=>61|n=>n,fun n=>n⟩
theorem revL:SlLaysE0.n35 Tryz.prog revL_ren where
 mixed:=by kernel_rfl
 f35:=⟨"slices.Reverse[[]loop.example/g00811/impl.Vec,loop.example/g00811/impl.Vec]",by decide,Tryz.func183.trans (congrArg some (by kernel_rfl))⟩
 t0:=Tryz.underlying0
 a0:=Tryz.isAgg0
 z0:=Tryz.sizeOf0
 v0:=Tryz.zeroValue0
 t3:=Tryz.underlying3
 a3:=Tryz.isAgg3
 z3:=Tryz.sizeOf3
 v3:=Tryz.zeroValue3
 t4:=Tryz.underlying4
 a4:=Tryz.isAgg4
 z4:=Tryz.sizeOf4
 v4:=Tryz.zeroValue4
 t22:=Tryz.underlying27
 a22:=Tryz.isAgg27
 z22:=Tryz.sizeOf27
 v22:=Tryz.zeroValue27
end Go.Proofs.YtbnkojgcbmfloaaGreat.DW

namespace Go.Proofs.YtbnkojgcbmfloaaGreat.DW
open Go.RowKit Go.Sort Go.Shelf
abbrev OV:={ v:DV // okV v=true }
instance:Inhabited OV:=⟨⟨(0,0),by decide⟩⟩
def encO (x:OV):List Value:=encV x.1
def cfO (x y:OV):Int:=cfV x.1 y.1
set_option maxHeartbeats 1000000 in
theorem compareVecs_any (a b:DV) (ha:okV a=true) (hb:okV b=true) (W:World):Calls Tryz.prog 180 #[.agg #[.int .i64 a.1,.int .i64 a.2],.agg #[.int .i64 b.1,.int .i64 b.2]] W fun e w'=>e=.returned (.int .i64 (cfV a b))/\∃ q os',w'=grow (W.drewN q) os':=by
 obtain ⟨a1,a2⟩:=a
 obtain ⟨b1,b2⟩:=b
 obtain ⟨p1,p2,p3,p4⟩:=okV_b ha
 obtain ⟨q1,q2,q3,q4⟩:=okV_b hb
 simp only at p1 p2 p3 p4 q1 q2 q3 q4
 clear ha hb
 unfold cfV
 by_cases h:a1=b1
 ·subst h
  simp only [if_true]
  go_enter Tryz.func180,Tryz.ntmps180
  go_wp2
  go_ret
  exact ⟨rfl,0,_,by rw [alloc_eq_grow,alloc_eq_grow,grow_grow]; rfl⟩
 ·simp only [h,if_false]
  go_enter Tryz.func180,Tryz.ntmps180
  go_wp2
  go_ret
  exact ⟨rfl,0,_,by rw [alloc_eq_grow,alloc_eq_grow,grow_grow]; rfl⟩
theorem cmpLays (blk off size:Nat) (w:World):CmpLays Tryz.prog 180 #[] encO 2 cfO blk off size w :=
 fun _ _ _ _ x y=>compareVecs_any x.1 y.1 x.2 y.2 _
theorem flat_val (d:List OV):flatK encO 2 d.toArray=flatK encV 2 (d.map Subtype.val).toArray:=by
 refine ext_get! (by simp) fun t ht=>?_
 have ht':t < d.length * 2:=by simpa using ht
 rw [get_flatK _ _ _ t (by simpa using ht'),get_flatK _ _ _ t (by simpa using ht'),getElem!_pos d.toArray (t / 2) (by simp; omega),getElem!_pos (d.map Subtype.val).toArray (t / 2) (by simp; omega),List.getElem_toArray,List.getElem_toArray,List.getElem_map]
 rfl
theorem swoO:SWO (ltOf cfO) where
 irrefl x:=by
  have:=cfV_lt x.1 x.1
  show decide (cfV x.1 x.1 < 0)=false
  rw [decide_eq_false_iff_not,this]
  exact ltV_irrefl _
 trans x y z h1 h2:=by
  have h1:=(cfV_lt x.1 y.1).1 (of_decide_eq_true h1)
  have h2:=(cfV_lt y.1 z.1).1 (of_decide_eq_true h2)
  exact decide_eq_true ((cfV_lt x.1 z.1).2 (ltV_trans h1 h2))
 ntrans x y z h1 h2:=by
  have h1:=fun h=>of_decide_eq_false h1 ((cfV_lt x.1 y.1).2 h)
  have h2:=fun h=>of_decide_eq_false h2 ((cfV_lt y.1 z.1).2 h)
  refine decide_eq_false fun h=>?_
  have h:=(cfV_lt x.1 z.1).1 h
  rcases ltV_tri x.1 y.1 with k|k|k
  ·exact h1 k
  ·exact h2 (k ▸ h)
  ·exact h2 (ltV_trans k h)
theorem totO (x y:OV) (h1:(ltOf cfO) x y=false) (h2:(ltOf cfO) y x=false):x=y:=by
 have h1:=fun h=>of_decide_eq_false h1 ((cfV_lt x.1 y.1).2 h)
 have h2:=fun h=>of_decide_eq_false h2 ((cfV_lt y.1 x.1).2 h)
 rcases ltV_tri x.1 y.1 with k|k|k
 ·exact (h1 k).elim
 ·exact Subtype.ext k
 ·exact (h2 k).elim
theorem exO:∀ l:List DV,(∀ v ∈ l,okV v=true)->∃ d:List OV,d.map Subtype.val=l
 | [],_=>⟨[],rfl⟩
 | v :: l,h=>by
  obtain ⟨d,hd⟩:=exO l fun x hx=>h x (List.mem_cons_of_mem _ hx)
  exact ⟨⟨v,h v List.mem_cons_self⟩ :: d,by rw [List.map_cons,hd]⟩
theorem sort_fn (l:List DV) (hl:∀ v ∈ l,okV v=true) (h0:0 < l.length) (hn:l.length<=1048576):FnR Tryz.prog 179 [.fn 180] 61 tVec l (l.mergeSort leB) false:=by
 obtain ⟨d,rfl⟩:=exO l hl
 refine FnR.of (enters_of Tryz.func179 (by kernel_rfl) rfl) h0 false fun hI w g cap hg hc hcm hH=>?_
 have hH':HoldsK encO 2 w g 0 d.toArray:=by unfold HoldsK; rw [flat_val]; exact hH
 have hdl:d.toArray.size=(d.map Subtype.val).length:=by simp
 have eg:∀ args w,(callFunc 180 args).run Tryz.prog w=.ok (.enter 180 args) w:=enters_of Tryz.func180 (by kernel_rfl) rfl
 have hcon:=AnyQ.slices_SortFunc_total sortL 2 Tryz.isAgg61 Tryz.sizeOf61 encO (fun _=>rfl) (fun x v hv=>by simp [encO,encV] at hv; rcases hv with rfl|rfl<;>rfl) cfO swoO 180 #[] g 0 cap d.toArray w eg (cmpLays g 0 _ w) hH' hg (by rw [hdl]; omega) totO
 rw [hdl] at hcon
 have hms:((d.mergeSort fun x y=>!(ltOf cfO) y x).map Subtype.val)=(d.map Subtype.val).mergeSort leB:=List.map_mergeSort fun a _ b _=>rfl
 refine Calls.mono hcon ?_
 rintro e w' ⟨rfl,n,os,rfl⟩
 refine ⟨(d.map Subtype.val).mergeSort leB,n,os,rfl,fun _=>List.length_mergeSort _,List.length_mergeSort _,fun x hx=>.inl ((List.mergeSort_perm _ _).mem_iff.1 hx),(List.take_length ..).symm,Nat.le_refl _,?_⟩
 unfold sortWorldK putRowK
 rw [<-hms,<-flat_val]
theorem reverse_fn (l:List DV) (h0:0 < l.length) (hn:l.length<=1048576):FnR Tryz.prog 183 [] 61 tVec l l.reverse false:=by
 refine FnR.of (enters_of Tryz.func183 (by kernel_rfl) rfl) h0 false fun hI w g cap hg hc hcm hH=>?_
 have hcon:=AnyQ.slices_Reverse revL 2 Tryz.isAgg61 Tryz.sizeOf61 encV (fun _=>rfl) (fun x v hv=>by simp [encV] at hv; rcases hv with rfl|rfl<;>rfl) g 0 cap l.toArray w hH (by simp; omega)
 have hdl:l.toArray.size=l.length:=by simp
 rw [hdl] at hcon
 refine Calls.mono hcon ?_
 rintro e w' ⟨rfl,n,rfl⟩
 refine ⟨l.reverse,n,#[],rfl,fun _=>List.length_reverse,List.length_reverse,fun x hx=>.inl (List.mem_reverse.1 hx),(List.take_length ..).symm,Nat.le_refl _,?_⟩
 unfold sortWorldK
 rw [grow_empty,List.reverse_toArray]
end Go.Proofs.YtbnkojgcbmfloaaGreat.DW

namespace Go.Proofs.YtbnkojgcbmfloaaGreat.DW
open Go.RowKit Go.Sort Go.Lib
theorem cmpD_snoc (y x:DV):∀ l:List DV,cmpD (l++[y,x])=cmpD (l++[y])++(if y=x then [] else [x])
 | []=>by
  show (if y=x then cmpD [x] else y :: cmpD [x])=[y]++_
  by_cases h:y=x
  ·rw [if_pos h,if_pos h,h]; rfl
  ·rw [if_neg h,if_neg h]; rfl
 | [a]=>by
  show (if a=y then cmpD [y,x] else a :: cmpD [y,x])=(if a=y then cmpD [y] else a :: cmpD [y])++_
  have ih:=cmpD_snoc y x []
  simp only [List.nil_append] at ih
  by_cases h:a=y
  ·rw [if_pos h,if_pos h,ih]
  ·rw [if_neg h,if_neg h,ih]; rfl
 | a :: b :: l=>by
  show (if a=b then cmpD (b :: (l++[y,x])) else a :: cmpD (b :: (l++[y,x])))=(if a=b then cmpD (b :: (l++[y])) else a :: cmpD (b :: (l++[y])))++_
  have ih:=cmpD_snoc y x (b :: l)
  simp only [List.cons_append] at ih
  by_cases h:a=b
  ·rw [if_pos h,if_pos h,ih]
  ·rw [if_neg h,if_neg h,ih]; rfl
theorem cpt_take (l:List DV):∀ m,m<=l.length->compactUpTo l.toArray m=cmpD (l.take m)
 | 0,_=>rfl
 | 1,h=>by
  rw [compactUpTo_succ,keeps_lt_one _ 0 (by decide),if_pos rfl]
  have e:l.take 1=[l[0]'(by omega)]:=by rw [List.take_add_one,List.getElem?_eq_getElem (by omega)]; rfl
  rw [e,getElem!_pos l.toArray 0 (by simp; omega)]
  rfl
 | m+2,h=>by
  have ih:=cpt_take l (m+1) (by omega)
  have e1:l.take (m+1)=l.take m++[l[m]'(by omega)]:=by rw [List.take_add_one,List.getElem?_eq_getElem (by omega)]; rfl
  have e2:l.take (m+2)=l.take m++[l[m]'(by omega),l[m+1]'(by omega)]:=by
   rw [List.take_add_one,List.getElem?_eq_getElem (by omega),e1,List.append_assoc]; rfl
  rw [compactUpTo_succ,ih,e2,cmpD_snoc,e1]
  have g1:l.toArray[m+1]! = l[m+1]'(by omega):=by rw [getElem!_pos l.toArray (m+1) (by simp; omega)]; rfl
  have g0:l.toArray[m+1 - 1]! = l[m]'(by omega):=by rw [Nat.add_sub_cancel,getElem!_pos l.toArray m (by simp; omega)]; rfl
  by_cases h2:l[m]'(by omega)=l[m+1]'(by omega)
  ·rw [keeps_neg (by omega) (by rw [g1,g0,h2]),if_pos h2]; rfl
  ·rw [keeps_pos (by rw [g1,g0]; exact fun h=>h2 h.symm),if_neg h2,if_pos rfl,g1]
theorem cpt_all (l:List DV):compactUpTo l.toArray l.length=cmpD l:=by
 rw [cpt_take l _ (Nat.le_refl _),List.take_length]
theorem setMany_one (d:Array DV) {i:Nat} (hi:i < d.size) (x:DV):setMany (flatK encV 2 d) (i * 2) (encV x)=flatK encV 2 (d.setIfInBounds i x):=by
 refine ext_get! (by simp) fun t ht=>?_
 have ht':t < d.size * 2:=by simpa using ht
 rw [get_setMany _ _ _ t (by simpa using ht'),get_flatK _ _ _ t ht',get_flatK _ _ _ t (by simpa using ht')]
 show (if i * 2<=t/\t < i * 2+2 then _ else _)=_
 by_cases h:t / 2=i
 ·rw [if_pos ⟨by omega,by omega⟩]
  subst h
  rw [getElem!_set_same d _ x hi,show t - t / 2 * 2=t % 2 by omega]
 ·rw [if_neg (by omega),getElem!_set_other d i _ x h]
theorem setMany_zero (d:Array DV) {k:Nat} (hk:k<=d.size) (r:List DV) (hr:r.length=k) (hlow:∀ j,j < k->r[j]? = some d[j]!) :
  setMany (flatK encV 2 d) (k * 2) (List.replicate ((d.size - k) * 2) (.int .i64 0))=flatK encV 2 (r++List.replicate (d.size - k) (0,0)).toArray:=by
 have hsz:(r++List.replicate (d.size - k) ((0:Int),(0:Int))).toArray.size=d.size:=by simp [hr]; omega
 refine ext_get! (by rw [size_setMany,size_flatK,size_flatK,hsz]) fun t ht=>?_
 have ht':t < d.size * 2:=by simpa using ht
 rw [get_setMany _ _ _ t (by simpa using ht'),get_flatK _ _ _ t ht',get_flatK _ _ _ t (by rw [hsz]; exact ht'),List.length_replicate]
 by_cases h:t / 2 < k
 ·rw [if_neg (by omega)]
  have h1:=hlow _ h
  have h2:(r++List.replicate (d.size - k) ((0:Int),(0:Int))).toArray[t / 2]! = d[t / 2]!:=by
   rw [getElem!_pos _ _ (by rw [hsz]; omega)]
   rw [List.getElem_toArray,List.getElem_append_left (by omega)]
   rw [List.getElem?_eq_getElem (by omega)] at h1
   injection h1
  rw [h2]
 ·rw [if_pos ⟨by omega,by omega⟩]
  have h2:(r++List.replicate (d.size - k) ((0:Int),(0:Int))).toArray[t / 2]! = (0,0):=by
   rw [getElem!_pos _ _ (by rw [hsz]; omega)]
   rw [List.getElem_toArray,List.getElem_append_right (by omega),List.getElem_replicate]
  rw [h2,getElem!_pos _ _ (by simp; omega),List.getElem_replicate]
  have h3:t % 2=0\/t % 2=1:=by omega
  rcases h3 with h3|h3<;>rw [h3]<;>rfl
end Go.Proofs.YtbnkojgcbmfloaaGreat.DW

namespace Go.Proofs.YtbnkojgcbmfloaaGreat.DW
open Go.RowKit Go.Sort Go.Lib
theorem vecT:vecTy Tryz.prog 61=true:=by kernel_rfl
theorem run_clear_vec (w:World) (ty:TypeId) (b o n c:Nat) (hn:0 < n)
  (hc:∀ j,j < n * 2->(w.cell? ⟨b,o+j,none⟩).isSome=true) (hf:∀ j,j < n * 2->w.frozen? ⟨b,o+j,none⟩=false) :
  (Builtin.clear_ #[27] ty #[.slice (some ⟨b,o,none⟩) n c]).run Tryz.prog w=.ok (.tuple #[]) (w.setCells b o (List.replicate (n * 2) (.int .i64 0))):=by
 have hzc:(Builtin.zeroCells (Value.agg #[.int .i64 0,.int .i64 0]).cells n).toList=List.replicate (n * 2) (.int .i64 0):=by
  apply List.ext_getElem
  ·simp [Builtin.zeroCells,Value.cells]
  ·intro i h1 h2
   simp only [Builtin.zeroCells,Value.cells,Array.toList_map,Array.toList_range,List.getElem_map,List.getElem_range,List.getElem_replicate]
   have:i % 2=0\/i % 2=1:=by omega
   show (#[Value.int .i64 0,Value.int .i64 0])[i % 2]! = _
   rcases this with h|h<;>rw [h]<;>rfl
 have hst:=run_storeCells_cells (P:=Tryz.prog) b o (List.replicate (n * 2) (.int .i64 0)) 0 w (by simpa using hc) (by simpa using hf) (by intro v hv'; rw [List.eq_of_mem_replicate hv']; rfl)
 simp only [Nat.add_zero] at hst
 obtain ⟨m,rfl⟩:∃ m,n=m+1:=⟨n - 1,by omega⟩
 have hz:=Tryz.zeroValue61
 have hu:=Tryz.underlying27
 simp [Builtin.clear_,run_underlying hu,hz,hzc,hst]
theorem store_world_v {w wr:World} {n blk off:Nat} {dk:Array DV} {i:Nat} (hi:i < dk.size) (hwr:wr=putRowK encV 2 (Sort.ahead w n) blk off dk) (a b:Int) :
  ((wr.setCell ⟨blk,off+i * 2,none⟩ (.int .i64 a)).setCell ⟨blk,off+i * 2+1,none⟩ (.int .i64 b)).drew=putRowK encV 2 (Sort.ahead w (n+1)) blk off (dk.setIfInBounds i (a,b)):=by
 subst hwr
 have h:=setCells_putRow (Sort.ahead w n) blk off (encV (a,b)) (i * 2) (flatK encV 2 dk) (by rw [size_flatK]; show i * 2+2<=_; omega)
 rw [setMany_one dk hi (a,b)] at h
 have h2:((putRowK encV 2 (Sort.ahead w n) blk off dk).setCell ⟨blk,off+i * 2,none⟩ (.int .i64 a)).setCell ⟨blk,off+i * 2+1,none⟩ (.int .i64 b)=putRow id (Sort.ahead w n) blk off (flatK encV 2 (dk.setIfInBounds i (a,b))):=h
 rw [h2,putRow_drew,ahead_drew]
 rfl
set_option maxHeartbeats 4000000 in
theorem compact_any (blk off cap:Nat) (d:Array DV) (w:World) (hH:HoldsK encV 2 w blk off d) (hsz:d.size<=9223372036854775807) (hcap:d.size<=cap) :
  Calls Tryz.prog 181 #[.slice (some ⟨blk,off,none⟩) d.size cap] w fun e w'=>e=.returned (.slice (some ⟨blk,off,none⟩) (compactUpTo d d.size).length cap)/\∃ q,w'=putRowK encV 2 (Sort.ahead w q) blk off (compactUpTo d d.size++List.replicate (d.size - (compactUpTo d d.size).length) (0,0)).toArray:=by
 have heq':∀ (a b c d:Int) (w:World),Sem.run Tryz.prog (binOp .eql 61 (.agg #[.int .i64 a,.int .i64 b]) (.agg #[.int .i64 c,.int .i64 d])) w=.ok (.bool (decide (a=c) && decide (b=d))) w:=fun a b c d w=>by rw [run_eql_struct,vec_eq vecT]; rfl
 have hne':∀ (a b c d:Int) (w:World),Sem.run Tryz.prog (binOp .neq 61 (.agg #[.int .i64 a,.int .i64 b]) (.agg #[.int .i64 c,.int .i64 d])) w=.ok (.bool (!(decide (a=c) && decide (b=d)))) w:=fun a b c d w=>by rw [run_neq_struct,vec_eq vecT]; rfl
 have hgd':∀ (op:BinOp) (x y:Operand) (a b c d:Int) (w:World),Sem.run Tryz.prog (eqGuard op 61 x y (.agg #[.int .i64 a,.int .i64 b]) (.agg #[.int .i64 c,.int .i64 d])) w=.ok () w:=fun op x y a b c d w=>run_eqGuard_agg w op _ x y _ _ (vecTy_g vecT)
 have same:∀ q,(∀ j,j < d.size->keeps d j=true)->(compactUpTo d d.size).length=d.size/\w.drewN q=putRowK encV 2 (Sort.ahead w q) blk off (compactUpTo d d.size++List.replicate (d.size - (compactUpTo d d.size).length) (0,0)).toArray:=by
  intro q hall
  have e:compactUpTo d d.size=d.toList:=by rw [compactUpTo_all d _ hall,range_map_get]
  rw [e]
  refine ⟨by simp,?_⟩
  simp only [Array.length_toList,Nat.sub_self,List.replicate_zero,List.append_nil,Array.toArray_toList]
  exact (putRowK_self encV 2 (Sort.ahead w q) blk off d (holdsK_ahead encV 2 w q blk off d hH)).symm
 have HS:Aside (∀ q,(∀ j,j < d.size->keeps d j=true)->(compactUpTo d d.size).length=d.size/\w.drewN q=putRowK encV 2 (Sort.ahead w q) blk off (compactUpTo d d.size++List.replicate (d.size - (compactUpTo d d.size).length) (0,0)).toArray):=same
 clear same
 have mixed:Tryz.prog.follows .mixedOrders=true:=mixes
 have encat:∀ x:DV,(encV x)[0]! = .int .i64 x.1/\(encV x)[1]! = .int .i64 x.2:=fun x=>⟨rfl,rfl⟩
 by_cases h2:d.size < 2
 ·have HH:Aside (HoldsK encV 2 w blk off d):=hH
  clear hH
  go_enter Tryz.func181,Tryz.ntmps181
  go_wp2
  go_ret
  obtain ⟨e1,e2⟩:=HS.out 0 (fun j hj=>keeps_lt_one d j (by omega))
  exact ⟨by rw [e1]; rfl,0,e2⟩
 ·go_enter Tryz.func181,Tryz.ntmps181
  go_wp2
  go_loopg [3] d.size (fun g s3 wr=>∃ k q:Nat,1<=k/\k<=d.size/\d.size - k<=g/\s3=.int .i64 k/\wr=w.drewN q/\∀ j,j < k->keeps d j=true)
  case atStart=>exact ⟨1,0,Nat.le_refl _,by omega,by omega,rfl,rfl,keeps_lt_one d⟩
  case round =>
   obtain ⟨k,q,hk1,hk,hg,rfl,rfl,hall⟩:=hrel
   by_cases hlt:k < d.size
   ·obtain ⟨c1,f1⟩:=hH.cell hlt (c:=0) (by decide)
    obtain ⟨c1',f1'⟩:=hH.cell hlt (c:=1) (by decide)
    obtain ⟨c0,f0⟩:=hH.cell (i:=k - 1) (by omega) (c:=0) (by decide)
    obtain ⟨c0',f0'⟩:=hH.cell (i:=k - 1) (by omega) (c:=1) (by decide)
    rw [(encat _).1] at c1 c0
    rw [(encat _).2] at c1' c0'
    rw [Nat.add_zero] at c1 c0 f1 f0
    have A:Aside (∀ j,j < k->keeps d j=true):=hall
    have HH:Aside (HoldsK encV 2 w blk off d):=hH
    clear hall hH
    generalize hx:d[k]! = x at c1 c1'
    generalize hy:d[k - 1]! = y at c0 c0'
    have B:Aside (d[k]! = x/\d[k - 1]! = y):=⟨hx,hy⟩
    clear hx hy
    obtain ⟨x1,x2⟩:=x
    obtain ⟨y1,y2⟩:=y
    simp only at c1 c1' c0 c0'
    have hbe:(decide (x1=y1) && decide (x2=y2))=decide ((x1,x2)=(y1,y2)):=by
     by_cases e1:x1=y1<;>by_cases e2:x2=y2<;>simp [e1,e2]
    by_cases hdup:((x1,x2):DV)=(y1,y2)
    ·injection hdup with h1 h2'
     subst h1 h2'
     go_wp2_with fail
     go_region_o
     go_wp2
     clear c0 c1 c0' c1' f0 f1 f0' f1'
     go_loopg [3,5] d.size (fun g s3 s5 wr=>∃ (kk k2 q2:Nat) (dk:Array DV),s3=.int .i64 kk/\s5=.int .i64 k2/\1<=k2/\k+k2<=d.size/\d.size - (k+k2)<=g/\wr=putRowK encV 2 (Sort.ahead w q2) blk off dk/\CompInv d (k+k2) kk dk)
     case atStart=>exact ⟨k,1,q+1,d,rfl,rfl,Nat.le_refl _,by omega,by omega,(putRowK_self encV 2 (Sort.ahead w (q+1)) blk off d (holdsK_ahead encV 2 w (q+1) blk off d HH.out)).symm,CompInv.start A.out (keeps_neg (by omega) (by rw [B.out.1,B.out.2]))⟩
     case round =>
      obtain ⟨kk,k2,q2,dk,rfl,rfl,h1,hle,hg2,hwr,hI⟩:=hrel
      have hkk:=hI.lt
      have hds:=hI.size
      have hHk:HoldsK encV 2 wr blk off dk:=by rw [hwr]; exact holdsK_putRowK encV 2 _ blk off d dk (holdsK_ahead encV 2 w q2 blk off d HH.out) hds
      have W2:Aside (wr=putRowK encV 2 (Sort.ahead w q2) blk off dk):=hwr
      have I2:Aside (CompInv d (k+k2) kk dk):=hI
      clear hwr
      by_cases hlt2:k+k2 < d.size
      ·obtain ⟨cm,_⟩:=hHk.cell (i:=k+k2) (by omega) (c:=0) (by decide)
       obtain ⟨cm',_⟩:=hHk.cell (i:=k+k2) (by omega) (c:=1) (by decide)
       obtain ⟨cp,_⟩:=hHk.cell (i:=k+k2 - 1) (by omega) (c:=0) (by decide)
       obtain ⟨cp',_⟩:=hHk.cell (i:=k+k2 - 1) (by omega) (c:=1) (by decide)
       obtain ⟨ck,fk⟩:=hHk.cell (i:=kk) (by omega) (c:=0) (by decide)
       obtain ⟨ck',fk'⟩:=hHk.cell (i:=kk) (by omega) (c:=1) (by decide)
       rw [hI.high (k+k2) (by omega),(encat _).1,show off+(k+k2) * 2+0=off+k * 2+k2 * 2 by omega] at cm
       rw [hI.high (k+k2) (by omega),(encat _).2,show off+(k+k2) * 2+1=off+k * 2+k2 * 2+1 by omega] at cm'
       rw [hI.high (k+k2 - 1) (by omega),(encat _).1,show off+(k+k2 - 1) * 2+0=off+k * 2+(k2 - 1) * 2 by omega] at cp
       rw [hI.high (k+k2 - 1) (by omega),(encat _).2,show off+(k+k2 - 1) * 2+1=off+k * 2+(k2 - 1) * 2+1 by omega] at cp'
       rw [(encat _).1,Nat.add_zero] at ck
       rw [(encat _).2] at ck'
       rw [Nat.add_zero] at fk
       clear hHk hI
       generalize hu:d[k+k2]! = u at cm cm'
       generalize hv:d[k+k2 - 1]! = v at cp cp'
       generalize dk[kk]! = old at ck ck'
       have C:Aside (d[k+k2]! = u/\d[k+k2 - 1]! = v):=⟨hu,hv⟩
       clear hu hv
       obtain ⟨u1,u2⟩:=u
       obtain ⟨v1,v2⟩:=v
       obtain ⟨o1,o2⟩:=old
       simp only at cm cm' cp cp' ck ck'
       by_cases huv:((u1,u2):DV)=(v1,v2)
       ·injection huv with e1 e2
        subst e1 e2
        go_wp2_with fail
        go_region_o
        go_wp2
        go_roundg (d.size - (k+(k2+1)))
        case measure=>omega
        case rel=>exact ⟨kk,k2+1,q2+1,dk,rfl,by go_num,by omega,by omega,Nat.le_refl _,by rw [W2.out]; rfl,I2.out.skip (keeps_neg (by omega) (by rw [C.out.1,C.out.2]))⟩
       ·have huv2:¬ (u1=v1/\u2=v2):=fun h=>huv (by rw [h.1,h.2])
        have hbe2:(decide (u1=v1) && decide (u2=v2))=false:=by
         by_cases e1:u1=v1<;>by_cases e2:u2=v2<;>simp [e1,e2]<;>exact huv2 ⟨e1,e2⟩
        have HU:Aside (¬ ((u1,u2):DV)=(v1,v2)):=huv
        clear huv huv2
        go_wp2_with fail
        go_region_o
        go_wp2
        go_roundg (d.size - (k+(k2+1)))
        case measure=>omega
        case rel=>exact ⟨kk+1,k2+1,q2+1,dk.setIfInBounds kk (u1,u2),by go_num,by go_num,by omega,by omega,Nat.le_refl _,store_world_v (by omega) W2.out u1 u2,by have:=I2.out.keep hlt2 (keeps_pos (by rw [C.out.1,C.out.2]; exact HU.out)); rwa [C.out.1] at this⟩
      ·have hend:k+k2=d.size:=by omega
       have hcl:∀ ty,(Builtin.clear_ #[27] ty #[.slice (some ⟨blk,off+kk * 2,none⟩) (d.size - kk) (cap - kk)]).run Tryz.prog wr=.ok (.tuple #[]) (wr.setCells blk (off+kk * 2) (List.replicate ((d.size - kk) * 2) (.int .i64 0))) :=
        fun ty=>run_clear_vec wr ty blk (off+kk * 2) _ _ (by omega) (fun j hj=>by
         have h:=(hHk (kk * 2+j) (by simp [hds]; omega)).1
         rw [show off+kk * 2+j=off+(kk * 2+j) by omega,h]; rfl) (fun j hj=>by
         have h:=(hHk (kk * 2+j) (by simp [hds]; omega)).2
         rw [show off+kk * 2+j=off+(kk * 2+j) by omega]; exact h)
       clear hHk hI
       go_wp2
       go_ret
       have hI:=I2.out
       rw [hend] at hI
       refine ⟨by rw [hI.len]; rfl,q2,?_⟩
       have hz:=setMany_zero dk (k:=kk) (by omega) (compactUpTo d d.size) hI.len hI.low
       rw [hI.len,W2.out]
       unfold putRowK
       rw [setCells_putRow _ _ _ _ _ _ (by rw [size_flatK,List.length_replicate]; omega),show d.size - kk=dk.size - kk by rw [hds],hz]
    ·have hbe2:(decide (x1=y1) && decide (x2=y2))=false:=by rw [hbe]; exact decide_eq_false hdup
     have HD:Aside (¬ ((x1,x2):DV)=(y1,y2)):=hdup
     clear hdup hbe
     go_wp2_with fail
     go_region_o
     go_wp2
     go_roundg (d.size - (k+1))
     case measure=>omega
     case rel =>
      refine ⟨k+1,q+1,by omega,by omega,Nat.le_refl _,by go_num,rfl,fun j hj=>?_⟩
      by_cases e:j=k
      ·subst e
       exact keeps_pos (by rw [B.out.1,B.out.2]; exact HD.out)
      ·exact A.out j (by omega)
   ·have:k=d.size:=by omega
    subst this
    have HH:Aside (HoldsK encV 2 w blk off d):=hH
    clear hH
    go_wp2
    go_ret
    obtain ⟨e1,e2⟩:=HS.out q hall
    exact ⟨by rw [e1]; rfl,q,e2⟩
theorem compact_fn (l:List DV) (h0:0 < l.length) (hn:l.length<=1048576):FnR Tryz.prog 181 [] 61 tVec l (cmpD l) true:=by
 refine FnR.of (enters_of Tryz.func181 (by kernel_rfl) rfl) h0 true fun hI w g cap hg hc hcm hH=>?_
 have hcon:=compact_any g 0 cap l.toArray w hH (by simp; omega) (by simpa using hc)
 have hdl:l.toArray.size=l.length:=by simp
 rw [hdl,cpt_all] at hcon
 refine Calls.mono hcon ?_
 rintro e w' ⟨rfl,n,rfl⟩
 have hcl:=cmpD_len (l:=l)
 refine ⟨cmpD l++List.replicate (l.length - (cmpD l).length) (0,0),n,#[],rfl,(fun h=>by cases h),?_,fun x hx=>?_,?_,?_,?_⟩
 ·rw [List.length_append,List.length_replicate]; omega
 ·rcases List.mem_append.1 hx with h|h
  ·exact .inl (cmpD_mem.1 h)
  ·exact .inr (List.eq_of_mem_replicate h)
 ·rw [List.take_left']; rfl
 ·rw [List.length_append]; omega
 ·unfold sortWorldK
  rw [grow_empty]
theorem cloneV_fn (l:List DV) (h0:0 < l.length) (hn:l.length<=1048576):FnG Tryz.prog 178 [⟨.slice tVec,l⟩] 61 tVec l:=by
 refine fnG_enter tabOK mixes Tryz.func178 rfl rfl _ Tryz.ntmps178 _ Tryz.results178 (by simp) fun hwf=>?_
 try simp (maxSteps:=9^9) only[go_sem]
 refine NilW.non (by intro e; rw [e] at h0; simp at h0) ?_
 try simp (maxSteps:=9^9) only[go_sem]
 repeat refine AI ?_
 exact ⟨0,1,rfl,rfl⟩
theorem HullOf_fn (l:List DV) (hl:∀ v ∈ l,okV v=true) (h0:0 < l.length) (hn:l.length<=64):Fn Tryz.prog 143 [⟨.slice tVec,l⟩] true [⟨.slice tVec,hullD l⟩]:=by
 have c1:=areVecs_fn l
 rw [any_okV_f hl] at c1
 have d0:=decide_eq_false (p:=(l.length:Int) > 64) (by omega)
 have c2:=cloneV_fn l h0 (by omega)
 have c3:=sort_fn l hl h0 (by omega)
 have hml:(l.mergeSort leB).length=l.length:=List.length_mergeSort _
 have c4:=compact_fn (l.mergeSort leB) (by omega) (by omega)
 have hsl:=srtD_len l
 have hsm:∀ v ∈ srtD l,okV v=true:=fun v hv=>hl v (srtD_mem.1 hv)
 have hcs:cmpD (l.mergeSort leB)=srtD l:=rfl
 rw [hcs] at c4
 refine fe Tryz.func143 Tryz.ntmps143 Tryz.results143 fun hwf=>?_
 try simp (maxSteps:=9^9) only[go_sem,d0]
 repeat refine AI ?_
 refine cw c1 ?_
 try simp (maxSteps:=9^9) only[go_sem]
 repeat refine AI ?_
 refine CallW.g (c2) ?_
 try simp (maxSteps:=9^9) only[go_sem]
 repeat refine AI ?_
 refine CallW.r (k:=0) (ver:=0) (o:=true) (c3) ?_
 try simp (maxSteps:=9^9) only[go_sem]
 repeat refine AI ?_
 refine CallW.r (k:=0) (ver:=0) (o:=true) (c4) ?_
 try simp (maxSteps:=9^9) only[go_sem]
 refine CondW_dec (fun hA=>?_) (fun hA=>?_)
 ·have hh:hullD l=srtD l:=by unfold hullD; rw [if_pos (by omega)]
  rw [hh]
  try simp (maxSteps:=9^9) only[go_sem]
 ·have hh:hullD l=chD (srtD l)++chD (srtD l).reverse:=by unfold hullD; rw [if_neg (by omega)]
  rw [hh]
  generalize srtD l=s at hsl hsm hA ⊢
  have c5:=chain_fn s hsm (by omega) (by omega)
  have c6:=reverse_fn s (by omega) (by omega)
  have hrl:s.reverse.length=s.length:=List.length_reverse
  have c7:=chain_fn s.reverse (fun v hv=>hsm v (List.mem_reverse.1 hv)) (by omega) (by omega)
  have q1:=chR_len s
  have q2:=chR_len s.reverse
  have q3:(chD s).length<=s.length:=by unfold chD; rw [List.length_dropLast,List.length_reverse]; omega
  have q4:(chD s.reverse).length<=s.length:=by unfold chD; rw [List.length_dropLast,List.length_reverse]; omega
  try simp (maxSteps:=9^9) only[go_sem]
  repeat refine AI ?_
  refine CallW.g (c5) ?_
  try simp (maxSteps:=9^9) only[go_sem]
  repeat refine AI ?_
  refine CallW.r (k:=0) (ver:=1) (o:=true) (c6) ?_
  try simp (maxSteps:=9^9) only[go_sem]
  repeat refine AI ?_
  refine CallW.g (c7) ?_
  try simp (maxSteps:=9^9) only[go_sem]
  repeat refine AI ?_
  omega
theorem natL_minInt:natL 9223372036854775808=[854775808,223372036,9]:=by
 rw [natL_pos (by decide),natL_pos (by decide),natL_pos (by decide),natL_zero]; rfl
theorem bigOf_fn (n:Int):Fn Tryz.prog 217 [⟨.int,n⟩] true [⟨tBig,bigD n⟩]:=by
 by_cases h0:0<=n
 ·have hn:¬ n < 0:=by omega
  have e:n.natAbs=n.toNat:=by omega
  refine fe Tryz.func217 Tryz.ntmps217 Tryz.results217 fun hwf=>?_
  try simp (maxSteps:=9^9) only[go_sem,h0,hn]
  repeat refine AI ?_
  refine cw (implNatOf_fn n) ?_
  try simp (maxSteps:=9^9) only[go_sem]
  rw [e]
  all_goals repeat refine AI ?_
  all_goals first|kernel_rfl|omega|rfl
 ·by_cases h1:n=-9223372036854775808
  ·subst h1
   have e:natL 9223372036854775807=natL (9223372036854775807:Int).toNat:=rfl
   have ha:=natAdd_fn (9223372036854775807:Int).toNat (1:Int).toNat (Nat.le_trans (natL_len3 (n:=9223372036854775807) (by decide)) (by decide)) (Nat.le_trans (nl_small (by decide)) (by decide))
   refine fe Tryz.func217 Tryz.ntmps217 Tryz.results217 fun hwf=>?_
   try simp (maxSteps:=9^9) only[go_sem]
   repeat refine AI ?_
   refine cw (implNatOf_fn 9223372036854775807) ?_
   try simp (maxSteps:=9^9) only[go_sem]
   repeat refine AI ?_
   refine cw (implNatOf_fn 1) ?_
   try simp (maxSteps:=9^9) only[go_sem]
   repeat refine AI ?_
   refine cw ha ?_
   try simp (maxSteps:=9^9) only[go_sem]
   all_goals repeat refine AI ?_
   all_goals first|kernel_rfl|omega|rfl
  ·have hn:n < 0:=by omega
   have e:n.natAbs=(-n).toNat:=by omega
   refine fe Tryz.func217 Tryz.ntmps217 Tryz.results217 fun hwf=>?_
   have hI:I64 n:=hwf ⟨.int,n⟩ (by simp)
   have hI1:=hI.1
   have hI2:=hI.2
   try simp (maxSteps:=9^9) only[go_sem,h0,h1]
   repeat refine AI ?_
   repeat refine AI ?_
   refine cw (implNatOf_fn (-n)) ?_
   try simp (maxSteps:=9^9) only[go_sem]
   rw [e]
   simp [hn]
theorem BigIntOf_fn (n:Int):Fn Tryz.prog 98 [⟨.int,n⟩] true [⟨tBig,bigD n⟩]:=by
 by_cases h1:n=-9223372036854775808
 ·subst h1
  have hm:=l03Make_to (s:=true) (n:=9223372036854775808) (z:=-9223372036854775808) rfl (Nat.le_trans (natL_len3 (n:=9223372036854775808) (by decide)) (by decide))
  rw [natL_minInt] at hm
  refine fe Tryz.func98 Tryz.ntmps98 Tryz.results98 fun hwf=>?_
  try simp (maxSteps:=9^9) only[go_sem]
  repeat refine AI ?_
  refine cw hm ?_
  try simp (maxSteps:=9^9) only[go_sem]
  all_goals repeat refine AI ?_
  all_goals first|kernel_rfl|omega|rfl
 ·refine fe Tryz.func98 Tryz.ntmps98 Tryz.results98 fun hwf=>?_
  have hI:I64 n:=hwf ⟨.int,n⟩ (by simp)
  have hI1:=hI.1
  have hI2:=hI.2
  try simp (maxSteps:=9^9) only[go_sem]
  refine CondW_dec (fun h=>absurd h h1) (fun _=>?_)
  try simp (maxSteps:=9^9) only[go_sem]
  refine CondW_dec (fun hn=>?_) (fun hn=>?_)
  ·have hm:=l03Make_to (s:=true) (n:=(-n).toNat) (z:=n) (by unfold sgn; simp; omega) (Nat.le_trans (natL_len3 (n:=-n) (by omega)) (by decide))
   try simp (maxSteps:=9^9) only[go_sem]
   repeat refine AI ?_
   repeat refine AI ?_
   refine cw (specNatOf_fn (-n)) ?_
   try simp (maxSteps:=9^9) only[go_sem]
   repeat refine AI ?_
   refine cw hm ?_
   try simp (maxSteps:=9^9) only[go_sem]
   all_goals repeat refine AI ?_
   all_goals first|kernel_rfl|omega|rfl
  ·have hm:=l03Make_to (s:=false) (n:=n.toNat) (z:=n) (by unfold sgn; simp; omega) (Nat.le_trans (natL_len3 (n:=n) (by omega)) (by decide))
   try simp (maxSteps:=9^9) only[go_sem]
   repeat refine AI ?_
   refine cw (specNatOf_fn n) ?_
   try simp (maxSteps:=9^9) only[go_sem]
   repeat refine AI ?_
   refine cw hm ?_
   try simp (maxSteps:=9^9) only[go_sem]
   all_goals repeat refine AI ?_
   all_goals first|kernel_rfl|omega|rfl
def ratI (n:Int):DR:=(bigD n,[1])
theorem ratI_eq (n:Int):ratI n=ratD (n:Rat):=by
 rw [ratI,ratD,Rat.num_intCast,Rat.den_intCast,natL_1]
attribute [go_sem] ratI
theorem ratInt_fn (n:Int):Fn Tryz.prog 176 [⟨.int,n⟩] true [⟨tRat,ratI n⟩]:=by
 refine fe Tryz.func176 Tryz.ntmps176 Tryz.results176 fun hwf=>?_
 try simp (maxSteps:=9^9) only[go_sem]
 repeat refine AI ?_
 refine cw (bigOf_fn n) ?_
 try simp (maxSteps:=9^9) only[go_sem]
 all_goals repeat refine AI ?_
 all_goals first|kernel_rfl|omega|rfl
theorem RatFromInt_fn (n:Int):Fn Tryz.prog 65 [⟨.int,n⟩] true [⟨tRat,ratI n⟩]:=by
 refine fe Tryz.func65 Tryz.ntmps65 Tryz.results65 fun hwf=>?_
 try simp (maxSteps:=9^9) only[go_sem]
 repeat refine AI ?_
 refine cw (BigIntOf_fn n) ?_
 try simp (maxSteps:=9^9) only[go_sem]
 all_goals repeat refine AI ?_
 all_goals first|kernel_rfl|omega|rfl
end Go.Proofs.YtbnkojgcbmfloaaGreat.DW

namespace Go.Proofs.YtbnkojgcbmfloaaGreat
open Go.RowKit in
theorem Has.of {α:Type} {A:Rp α} {w:World} {cs:List Value} {a:α} {fp:List Nat} (h:A.rep w cs a fp):Has A w cs a:=⟨fp,h⟩
end Go.Proofs.YtbnkojgcbmfloaaGreat

namespace Go.Proofs.YtbnkojgcbmfloaaGreat.DW
open Go.RowKit
theorem okR_len {r:DR} (h:okR r=true):r.1.2.length<=24/\r.2.length<=24:=by
 obtain ⟨p,hp,rfl,_⟩:=okR_t h
 exact hp
end Go.Proofs.YtbnkojgcbmfloaaGreat.DW

namespace Go.Proofs.YtbnkojgcbmfloaaGreat.DW
open Go.RowKit
theorem ratMul_fn (x y:Option Rat) (hx:okO x) (hy:okO y):Fn Tryz.prog 185 [⟨tRat,oD x⟩,⟨tRat,oD y⟩] true [⟨tRat,oD (mulO x y)⟩]:=by
 cases x with
 | none =>
  refine fe Tryz.func185 Tryz.ntmps185 Tryz.results185 fun hwf=>?_
  try simp (maxSteps:=9^9) only[go_sem]
  repeat refine AI ?_
  refine cw isGood_n ?_
  try simp (maxSteps:=9^9) only[go_sem]
  try simp (maxSteps:=9^9) only[go_sem,mulO]
 | some p =>
  cases y with
  | none =>
   refine fe Tryz.func185 Tryz.ntmps185 Tryz.results185 fun hwf=>?_
   try simp (maxSteps:=9^9) only[go_sem]
   repeat refine AI ?_
   refine cw (isGood_s p) ?_
   try simp (maxSteps:=9^9) only[go_sem]
   repeat refine AI ?_
   refine cw isGood_n ?_
   try simp (maxSteps:=9^9) only[go_sem]
   try simp (maxSteps:=9^9) only[go_sem,mulO]
  | some q =>
   obtain ⟨p1,p2⟩:=hx p rfl
   obtain ⟨q1,q2⟩:=hy q rfl
   have b1:=nl_mulI p.num q.num
   have b4:=nl_mul p.den q.den
   have hm:=ratMake_end (p.num * q.num) (p.den * q.den) (den_mul_ne p q) (by omega) (by omega)
   rw [<-mul_mk] at hm
   have e:mulO (some p) (some q)=capR (p * q):=rfl
   rw [e]
   refine fe Tryz.func185 Tryz.ntmps185 Tryz.results185 fun hwf=>?_
   try simp (maxSteps:=9^9) only[go_sem]
   repeat refine AI ?_
   refine cw (isGood_s p) ?_
   try simp (maxSteps:=9^9) only[go_sem]
   repeat refine AI ?_
   refine cw (isGood_s q) ?_
   try simp (maxSteps:=9^9) only[go_sem]
   repeat refine AI ?_
   refine cw (bigMul_fn p.num q.num (by omega) (by omega)) ?_
   try simp (maxSteps:=9^9) only[go_sem]
   repeat refine AI ?_
   refine cw (natMul_fn p.den q.den (by omega) (by omega)) ?_
   try simp (maxSteps:=9^9) only[go_sem]
   repeat refine AI ?_
   refine cw hm ?_
   try simp (maxSteps:=9^9) only[go_sem]
   all_goals repeat refine AI ?_
   all_goals first|kernel_rfl|omega|rfl
theorem ratMin_fn (x y:Option Rat) (hx:okO x) (hy:okO y):Fn Tryz.prog 215 [⟨tRat,oD x⟩,⟨tRat,oD y⟩] false [⟨tRat,oD (minO x y)⟩]:=by
 cases x with
 | none =>
  refine fe Tryz.func215 Tryz.ntmps215 Tryz.results215 fun hwf=>?_
  try simp (maxSteps:=9^9) only[go_sem]
  repeat refine AI ?_
  refine cw isGood_n ?_
  try simp (maxSteps:=9^9) only[go_sem]
  try simp (maxSteps:=9^9) only[go_sem,minO]
 | some p =>
  cases y with
  | none =>
   refine fe Tryz.func215 Tryz.ntmps215 Tryz.results215 fun hwf=>?_
   try simp (maxSteps:=9^9) only[go_sem]
   repeat refine AI ?_
   refine cw (isGood_s p) ?_
   try simp (maxSteps:=9^9) only[go_sem]
   repeat refine AI ?_
   refine cw isGood_n ?_
   try simp (maxSteps:=9^9) only[go_sem]
   try simp (maxSteps:=9^9) only[go_sem,minO]
  | some q =>
   have hc:=ratCmp_fn (some p) (some q) hx hy
   have e:cmpO (some p) (some q)=cmpQ p q:=rfl
   rw [e] at hc
   by_cases h:cmpQ p q<=0
   ·have e2:minO (some p) (some q)=some p:=if_pos h
    rw [e2]
    refine fe Tryz.func215 Tryz.ntmps215 Tryz.results215 fun hwf=>?_
    try simp (maxSteps:=9^9) only[go_sem]
    repeat refine AI ?_
    refine cw (isGood_s p) ?_
    try simp (maxSteps:=9^9) only[go_sem]
    repeat refine AI ?_
    refine cw (isGood_s q) ?_
    try simp (maxSteps:=9^9) only[go_sem]
    repeat refine AI ?_
    refine cw hc ?_
    try simp (maxSteps:=9^9) only[go_sem]
    try simp (maxSteps:=9^9) only[go_sem,h]
   ·have e2:minO (some p) (some q)=some q:=if_neg h
    rw [e2]
    refine fe Tryz.func215 Tryz.ntmps215 Tryz.results215 fun hwf=>?_
    try simp (maxSteps:=9^9) only[go_sem]
    repeat refine AI ?_
    refine cw (isGood_s p) ?_
    try simp (maxSteps:=9^9) only[go_sem]
    repeat refine AI ?_
    refine cw (isGood_s q) ?_
    try simp (maxSteps:=9^9) only[go_sem]
    repeat refine AI ?_
    refine cw hc ?_
    try simp (maxSteps:=9^9) only[go_sem]
    try simp (maxSteps:=9^9) only[go_sem,h]
section
variable {P:Program} {f:FuncId} {fn:Func} {code:Code}
theorem enters (hf:P.funcs[f]? = some fn) (hname:(fn.name == "runtime.NumGoroutine")=false) (hb:fn.body=some code):∀ vs w,(callFunc f vs).run P w=.ok (.enter f vs) w:=by
 intro vs w
 have h1:fn.name ≠ "runtime.NumGoroutine":=by simpa using hname
 simp [callFunc,hf,h1,hb]
theorem drep_int {w:World} {v:Value} {n:Int} {fp:List Nat} (h:DRep w v ⟨.int,n⟩ fp):v=.int .i64 n:=by
 obtain ⟨cs,hp,hr⟩:=h
 rcases hp with ⟨h,_⟩|⟨_,rfl⟩
 ·cases h
 ·exact (List.cons.inj hr.1).1
theorem dres_int {own:Bool} {base:Nat} {S:Nat->Prop} {w:World} {n:Int} (h:I64 n):DRes own base S w (.int .i64 n) ⟨.int,n⟩:=⟨[],⟨[_],.inr ⟨rfl,rfl⟩,rfl,rfl,h⟩,fun _=>ownFp_nil _ _,fun b hb=>by cases hb⟩
theorem dres_bool {own:Bool} {base:Nat} {S:Nat->Prop} {w:World} {n:Bool}:DRes own base S w (.bool n) ⟨.bool,n⟩:=⟨[],⟨[_],.inr ⟨rfl,rfl⟩,rfl,rfl⟩,fun _=>ownFp_nil _ _,fun b hb=>by cases hb⟩
variable (en:∀ vs w,(callFunc f vs).run P w=.ok (.enter f vs) w)
include en
theorem Fn.ofInt {t:Ty} {x:t.den} {n r:Int} (hI:I64 r) (h:∀ w v cs,pk t v cs->Has t.rp w cs x->Calls P f #[v,.int .i64 n] w (Post fun v w'=>v=.int .i64 r/\Below w.heap.size w w')):Fn P f [⟨t,x⟩,⟨.int,n⟩] false [⟨.int,r⟩]:=by
 refine ⟨en,fun w vs S ha=>?_⟩
 match vs,ha with
 | [v1,v2],⟨⟨fp1,⟨cs,hp,hr⟩,_⟩,⟨fp2,h2,_⟩,_⟩ =>
  obtain rfl:=drep_int h2
  refine (h w v1 cs hp ⟨fp1,hr⟩).mono fun e w' ⟨v,he,hv,hb⟩=>⟨hb,v,he,?_⟩
  subst hv
  exact dres_int hI
 | [],ha=>exact ha.elim
 | [_],ha=>exact ha.2.elim
 | _ :: _ :: _ :: _,ha=>exact ha.2.2.elim
theorem Fn.ofEq {t:Ty} {x y:t.den} {r:Bool} (h:∀ w v cs u ds,pk t v cs->Has t.rp w cs x->pk t u ds->Has t.rp w ds y->Calls P f #[v,u] w (Post fun v w'=>v=.bool r/\Below w.heap.size w w')):Fn P f [⟨t,x⟩,⟨t,y⟩] false [⟨.bool,r⟩]:=by
 refine ⟨en,fun w vs S ha=>?_⟩
 match vs,ha with
 | [v1,v2],⟨⟨fp1,⟨cs,hp,hr⟩,_⟩,⟨fp2,⟨ds,hp2,hr2⟩,_⟩,_⟩ =>
  refine (h w v1 cs v2 ds hp ⟨fp1,hr⟩ hp2 ⟨fp2,hr2⟩).mono fun e w' ⟨v,he,hv,hb⟩=>⟨hb,v,he,?_⟩
  subst hv
  exact dres_bool
 | [],ha=>exact ha.elim
 | [_],ha=>exact ha.2.elim
 | _ :: _ :: _ :: _,ha=>exact ha.2.2.elim
theorem FnS.of1 {t:Ty} {x:t.den} (ht:t.isAgg=true) (h:∀ w cs,Has t.rp w cs x->Calls P f #[.agg cs.toArray] w (Post fun v w'=>v=.agg cs.toArray/\Below w.heap.size w w')):FnS P f [⟨t,x⟩] 0:=by
 refine ⟨en,fun w vs ha=>?_⟩
 match vs,ha with
 | [v1],⟨⟨fp1,cs,hp,hr⟩,_⟩ =>
  rcases hp with ⟨_,rfl⟩|⟨h0,_⟩
  ·exact (h w cs ⟨fp1,hr⟩).mono fun e w' ⟨v,he,hv,hb⟩=>⟨hb,_,rfl,by rw [he,hv]⟩
  ·rw [ht] at h0; cases h0
 | [],ha=>exact ha.elim
 | _ :: _ :: _,ha=>exact ha.2.elim
theorem FnM.of {t:Ty} {x x':t.den} {k r:Int} (hI:I64 r) (h:∀ w v cs fp,pk t v cs->t.rp.rep w cs x fp->fp.Nodup->(∀ b ∈ fp,Free w b)->Calls P f #[v,.int .i64 k] w (Post (MarkPost t.rp cs x' fp r w))):FnM P f t x x' k r:=⟨en,hI,h⟩
end
theorem pk_agg {t:Ty} {v:Value} {cs:List Value} (ht:t.isAgg=true) (h:pk t v cs):v=.agg cs.toArray:=by
 rcases h with ⟨_,h⟩|⟨h,_⟩
 ·exact h
 ·rw [ht] at h; cases h
@[go_sem] theorem ex_row {i ver:Nat} {p:Nat->Prop}:(∃ k,AV.row i ver=AV.row k ver/\p k)=p i:=propext ⟨fun ⟨k,e,h⟩=>by injection e with e; exact e ▸ h,fun h=>⟨i,rfl,h⟩⟩
@[go_sem] theorem eqb_self {α:Type} (a:α):eqb a a=true:=eqb_true rfl
end Go.Proofs.YtbnkojgcbmfloaaGreat.DW

namespace Go.Proofs.YtbnkojgcbmfloaaGreat
open Go.RowKit
section
variable {o:Bool} {base:Nat} {w w':World} {e:TypeId} {v:Value} {l:List Int}
theorem GrowInt.row (h:Grow Rp.int o base w e v l):w.ownsRow base e 1 v l.length (l.map (Value.int .i64))/\∀ x ∈ l,I64 x:=by
 obtain ⟨xs,fps,ho,hl,he,_,_⟩:=h
 have hxl:xs.length=l.length:=by have:=ho.1; simpa [Rp.int] using this
 have hall:∀ (i:Nat) (x:Int),l[i]? = some x->xs[i]? = some (Value.int .i64 x)/\I64 x:=by
  intro i x hx
  obtain ⟨f,cs,_,hr,hc⟩:=he i x hx
  obtain ⟨rfl,_,hI⟩:=hr
  exact ⟨by simpa [Rp.int] using hc 0 _ rfl,hI⟩
 have hxs:xs=l.map (Value.int .i64):=by
  apply List.ext_getElem?
  intro i
  rw [List.getElem?_map]
  rcases Nat.lt_or_ge i l.length with hi|hi
  ·have:=(hall i l[i] (List.getElem?_eq_getElem hi)).1
   rw [this,List.getElem?_eq_getElem hi]; rfl
  ·rw [List.getElem?_eq_none (by omega),List.getElem?_eq_none hi]; rfl
 refine ⟨hxs ▸ ho,fun x hx=>?_⟩
 obtain ⟨i,hi,rfl⟩:=List.getElem_of_mem hx
 exact (hall i _ (List.getElem?_eq_getElem hi)).2
theorem flatten_nils (n:Nat):(List.replicate n ([]:List Nat)).flatten=[]:=by
 induction n with
 | zero=>rfl
 | succ n ih=>simp
theorem GrowInt.of (h:w.ownsRow base e 1 v l.length (l.map (Value.int .i64))) (hI:∀ x ∈ l,I64 x):Grow Rp.int o base w e v l:=by
 refine ⟨l.map (Value.int .i64),List.replicate l.length [],h,by simp,fun i x hx=>?_,fun b hb=>?_,fun _=>⟨?_,fun b hb=>?_⟩⟩
 ·have hi:=(List.getElem?_eq_some_iff.1 hx).1
  refine ⟨[],[.int .i64 x],by simp [hi],⟨rfl,rfl,hI x (List.mem_of_getElem? hx)⟩,fun j c hc=>?_⟩
  cases j with
  | zero=>simp at hc; subst hc; simp [Rp.int,hx]
  | succ j=>simp at hc
 ·rw [flatten_nils] at hb; cases hb
 ·rw [flatten_nils]; exact List.nodup_nil
 ·rw [flatten_nils] at hb; cases hb
end
section
variable {P:Program} (w:World)
end
theorem GrowInt.keep {o:Bool} {base:Nat} {w w':World} {e:TypeId} {v:Value} {l:List Int} (h:Grow Rp.int o base w e v l) {row:Option Nat} (hgr:w.grownBy w' row) (hne:∀ k,v.ownBlock=some k->some k ≠ row):Grow Rp.int o base w' e v l:=by
 obtain ⟨h1,h2⟩:=GrowInt.row h
 refine GrowInt.of (h1.kept hgr ?_) h2
 cases hv:v.ownBlock with
 | none=>exact .inl rfl
 | some k=>exact .inr (hne k hv)
end Go.Proofs.YtbnkojgcbmfloaaGreat

namespace Go.Proofs.YtbnkojgcbmfloaaGreat
open Go.RowKit
def New {α:Type} (A:Rp α) (base:Nat) (w:World) (cs:List Value) (a:α):Prop:=∃ fp,A.rep w cs a fp/\∀ b ∈ fp,base<=b
theorem Own.new {α:Type} {A:Rp α} {base:Nat} {w:World} {cs:List Value} {a:α} (h:Own A base w cs a):New A base w cs a:=let ⟨fp,hr,_,ho⟩:=h; ⟨fp,hr,fun b hb=>(ho b hb).1⟩
theorem New.has {α:Type} {A:Rp α} {base:Nat} {w:World} {cs:List Value} {a:α} (h:New A base w cs a):Has A w cs a:=let ⟨fp,hr,_⟩:=h; ⟨fp,hr⟩
theorem New.below {α:Type} {A:Rp α} {base:Nat} {w w':World} {cs:List Value} {a:α} (h:New A base w cs a) (hb:Below w.heap.size w w'):New A base w' cs a :=
 let ⟨fp,hr,ho⟩:=h; ⟨fp,A.frame hr fun b hb'=>hb.block b (A.lt hr b hb'),ho⟩
theorem New.mono {α:Type} {A:Rp α} {base base':Nat} {w:World} {cs:List Value} {a:α} (h:New A base w cs a) (hb:base'<=base):New A base' w cs a:=let ⟨fp,hr,ho⟩:=h; ⟨fp,hr,fun b hb'=>Nat.le_trans hb (ho b hb')⟩
theorem New.frame {α:Type} {A:Rp α} {base:Nat} {w w':World} {cs:List Value} {a:α} (h:New A base w cs a) (hf:∀ b,base<=b->b < w.heap.size->w'.heap[b]? = w.heap[b]?):New A base w' cs a :=
 let ⟨fp,hr,ho⟩:=h; ⟨fp,A.frame hr fun b hb'=>hf b (ho b hb') (A.lt hr b hb'),ho⟩
theorem New.setCell {α:Type} {A:Rp α} {base:Nat} {w:World} {cs:List Value} {a:α} (h:New A base w cs a) {p:Addr} (hp:p.block < base) (v:Value):New A base (w.setCell p v) cs a :=
 h.frame fun b h1 _=>Below.heap_setCell _ _ _ _ (by omega)
theorem New.bool (base:Nat) (w:World) (b:Bool):New Rp.bool base w [.bool b] b:=⟨[],⟨rfl,rfl⟩,fun _ h=>by cases h⟩
theorem New.int (base:Nat) (w:World) {n:Int} (h:I64 n):New Rp.int base w [.int .i64 n] n:=⟨[],⟨rfl,rfl,h⟩,fun _ h=>by cases h⟩
theorem Has.ofInt (w:World) {n:Int} (h:I64 n):Has Rp.int w [.int .i64 n] n:=⟨[],rfl,rfl,h⟩
end Go.Proofs.YtbnkojgcbmfloaaGreat

namespace Go.Proofs.YtbnkojgcbmfloaaGreat
open Go.RowKit DW
set_option maxHeartbeats 2000000 in
theorem pointOr_any (c0 c1 c2 c3 c4 c5:Value) (x:DPoint) (w:World) (hx:Has RPoint w [c0,c1,c2,c3,c4,c5] x) (hg:DW.Fn Tryz.prog 148 [⟨DW.tPoint,x⟩] false [⟨.bool,true⟩]) :
  Calls Tryz.prog 106 #[.agg #[c0,c1,c2,c3,c4,c5]] w (Post fun v w'=>v=.agg #[c0,c1,c2,c3,c4,c5]/\Below w.heap.size w w'):=by
 have HX:=Lib.hid hx
 have ho0:=hx.one 0 c0 rfl
 have ho1:=hx.one 1 c1 rfl
 have ho2:=hx.one 2 c2 rfl
 have ho3:=hx.one 3 c3 rfl
 have ho4:=hx.one 4 c4 rfl
 have ho5:=hx.one 5 c5 rfl
 have HG:=Lib.hid hg
 clear hx hg
 go_enter Tryz.func106,Tryz.ntmps106
 go_wp2_with fail
 have hp1:=((Below.refl w.heap.size w).alloc (Nat.le_refl _) (Obj.cells #[c0,c1,c2,c3,c4,c5] 33)).alloc (by simp<;>omega) (Obj.cells #[.bool false,.slice none 0 0,.slice none 0 0,.bool false,.slice none 0 0,.slice none 0 0] 33)
 refine (HG.out.bool (vs:=[.agg #[c0,c1,c2,c3,c4,c5]]) ⟨Arg.agg (t:=DW.tPoint) (cs:=[c0,c1,c2,c3,c4,c5]) rfl (HX.out.below hp1),trivial⟩).mono ?_
 rintro e w1 ⟨v,rfl,rfl,hc1⟩
 have hb1:=Below.up hp1 hc1 (by simp<;>omega)
 have hlt1:w.heap.size+1 < w1.heap.size:=Nat.lt_of_lt_of_le (by simp<;>omega) hc1.size
 obtain ⟨hcr1,hfr1⟩:=bcell hc1
 go_wp2
 refine bodyPost_ret (v:=.agg #[c0,c1,c2,c3,c4,c5]) (by simp [results,go_sem,hlt1,hcr1]) rfl ⟨_,rfl,rfl,?_⟩
 exact ((((((hb1).setCell (p:=⟨w.heap.size+1,0,none⟩) (by simp) c0).setCell (p:=⟨w.heap.size+1,1,none⟩) (by simp) c1).setCell (p:=⟨w.heap.size+1,2,none⟩) (by simp) c2).setCell (p:=⟨w.heap.size+1,3,none⟩) (by simp) c3).setCell (p:=⟨w.heap.size+1,4,none⟩) (by simp) c4).setCell (p:=⟨w.heap.size+1,5,none⟩) (by simp) c5
end Go.Proofs.YtbnkojgcbmfloaaGreat

namespace Go.Proofs.YtbnkojgcbmfloaaGreat.DW
open Go.RowKit
abbrev ptZ:DP:=(rZ,rZ)
def ptO (x y:Option Rat):DP:=if x.isSome && y.isSome then (oD x,oD y) else ptZ
theorem isGoodPoint_fn (x y:Option Rat):Fn Tryz.prog 148 [⟨tPoint,(oD x,oD y)⟩] false [⟨.bool,x.isSome && y.isSome⟩]:=by
 cases hx:x.isSome
 ·refine fe Tryz.func148 Tryz.ntmps148 Tryz.results148 fun hwf=>?_
  try simp (maxSteps:=9^9) only[go_sem]
  repeat refine AI ?_
  refine cw (isGood_fn x) ?_
  try simp (maxSteps:=9^9) only[go_sem]
  try simp (maxSteps:=9^9) only[go_sem,hx]
  repeat refine AI ?_
 ·refine fe Tryz.func148 Tryz.ntmps148 Tryz.results148 fun hwf=>?_
  try simp (maxSteps:=9^9) only[go_sem]
  repeat refine AI ?_
  refine cw (isGood_fn x) ?_
  try simp (maxSteps:=9^9) only[go_sem]
  try simp (maxSteps:=9^9) only[go_sem,hx]
  repeat refine AI ?_
  refine cw (isGood_fn y) ?_
  try simp (maxSteps:=9^9) only[go_sem]
  repeat refine AI ?_
theorem pointOr_no (x y:Option Rat) (h:(x.isSome && y.isSome)=false):Fn Tryz.prog 106 [⟨tPoint,(oD x,oD y)⟩] true [⟨tPoint,ptZ⟩]:=by
 have h1:=isGoodPoint_fn x y
 rw [h] at h1
 refine fe Tryz.func106 Tryz.ntmps106 Tryz.results106 fun hwf=>?_
 try simp (maxSteps:=9^9) only[go_sem]
 repeat refine AI ?_
 refine cw h1 ?_
 try simp (maxSteps:=9^9) only[go_sem]
 all_goals repeat refine AI ?_
 all_goals first|kernel_rfl|omega|rfl
theorem pointOr_yes (x y:Option Rat) (h:(x.isSome && y.isSome)=true):FnS Tryz.prog 106 [⟨tPoint,(oD x,oD y)⟩] 0:=by
 have h1:=isGoodPoint_fn x y
 rw [h] at h1
 refine FnS.of1 (enters Tryz.func106 rfl rfl) rfl fun w cs hc=>?_
 obtain ⟨c0,c1,c2,c3,c4,c5,rfl⟩:=list6 hc.len
 exact pointOr_any c0 c1 c2 c3 c4 c5 _ w hc h1
theorem difference_fn (a b x y:Option Rat) (ha:okO a) (hb:okO b) (hx:okO x) (hy:okO y):Fn Tryz.prog 72 [⟨tPoint,(oD a,oD b)⟩,⟨tPoint,(oD x,oD y)⟩] true [⟨tPoint,ptO (subO a x) (subO b y)⟩]:=by
 have c1:=ratSub_fn a x ha hx
 have c2:=ratSub_fn b y hb hy
 cases h:((subO a x).isSome && (subO b y).isSome)
 ·have c3:=pointOr_no _ _ h
  have e:ptO (subO a x) (subO b y)=ptZ:=by unfold ptO; rw [h]; rfl
  rw [e]
  refine fe Tryz.func72 Tryz.ntmps72 Tryz.results72 fun hwf=>?_
  try simp (maxSteps:=9^9) only[go_sem]
  repeat refine AI ?_
  refine cw c1 ?_
  try simp (maxSteps:=9^9) only[go_sem]
  repeat refine AI ?_
  refine cw c2 ?_
  try simp (maxSteps:=9^9) only[go_sem]
  repeat refine AI ?_
  refine cw c3 ?_
  try simp (maxSteps:=9^9) only[go_sem]
  all_goals repeat refine AI ?_
  all_goals first|kernel_rfl|omega|rfl
 ·have c3:=pointOr_yes _ _ h
  have e:ptO (subO a x) (subO b y)=(oD (subO a x),oD (subO b y)):=by unfold ptO; rw [h]; rfl
  rw [e]
  refine fe Tryz.func72 Tryz.ntmps72 Tryz.results72 fun hwf=>?_
  try simp (maxSteps:=9^9) only[go_sem]
  repeat refine AI ?_
  refine cw c1 ?_
  try simp (maxSteps:=9^9) only[go_sem]
  repeat refine AI ?_
  refine cw c2 ?_
  try simp (maxSteps:=9^9) only[go_sem]
  repeat refine AI ?_
  refine CallW.s (c3) ?_
  try simp (maxSteps:=9^9) only[go_sem]
  all_goals repeat refine AI ?_
  all_goals first|kernel_rfl|omega|rfl
noncomputable def subP (p q:DP):DP:=ptO (subO (rdO p.1) (rdO q.1)) (subO (rdO p.2) (rdO q.2))
noncomputable def sdP (p q r:DP):Int:=sgnO (subO (mulO (subO (rdO q.1) (rdO p.1)) (subO (rdO r.2) (rdO p.2))) (mulO (subO (rdO q.2) (rdO p.2)) (subO (rdO r.1) (rdO p.1))))
theorem side_fn (p q r:DP) (hp:okPt p=true) (hq:okPt q=true) (hr:okPt r=true):Fn Tryz.prog 147 [⟨tPoint,p⟩,⟨tPoint,q⟩,⟨tPoint,r⟩] false [⟨.int,sdP p q r⟩]:=by
 obtain ⟨p1,p2⟩:=Bool.and_eq_true_iff.1 (show (okR p.1 && okR p.2)=true from hp)
 obtain ⟨q1,q2⟩:=Bool.and_eq_true_iff.1 (show (okR q.1 && okR q.2)=true from hq)
 obtain ⟨r1,r2⟩:=Bool.and_eq_true_iff.1 (show (okR r.1 && okR r.2)=true from hr)
 have c1:=ratSub_fn (rdO q.1) (rdO p.1) (okO_rdO _) (okO_rdO _)
 have c2:=ratSub_fn (rdO r.2) (rdO p.2) (okO_rdO _) (okO_rdO _)
 have c3:=ratMul_fn _ _ (okO_sub (rdO q.1) (rdO p.1)) (okO_sub (rdO r.2) (rdO p.2))
 have c4:=ratSub_fn (rdO q.2) (rdO p.2) (okO_rdO _) (okO_rdO _)
 have c5:=ratSub_fn (rdO r.1) (rdO p.1) (okO_rdO _) (okO_rdO _)
 have c6:=ratMul_fn _ _ (okO_sub (rdO q.2) (rdO p.2)) (okO_sub (rdO r.1) (rdO p.1))
 have c7:=ratSub_fn (mulO (subO (rdO q.1) (rdO p.1)) (subO (rdO r.2) (rdO p.2))) (mulO (subO (rdO q.2) (rdO p.2)) (subO (rdO r.1) (rdO p.1))) (okO_mul _ _) (okO_mul _ _)
 have c8:=ratSign_fn (subO (mulO (subO (rdO q.1) (rdO p.1)) (subO (rdO r.2) (rdO p.2))) (mulO (subO (rdO q.2) (rdO p.2)) (subO (rdO r.1) (rdO p.1))))
 rw [okR_oD p1,okR_oD q1] at c1
 rw [okR_oD p2,okR_oD r2] at c2
 rw [okR_oD p2,okR_oD q2] at c4
 rw [okR_oD p1,okR_oD r1] at c5
 unfold sdP
 refine fe Tryz.func147 Tryz.ntmps147 Tryz.results147 fun hwf=>?_
 try simp (maxSteps:=9^9) only[go_sem]
 repeat refine AI ?_
 refine cw c1 ?_
 try simp (maxSteps:=9^9) only[go_sem]
 repeat refine AI ?_
 refine cw c2 ?_
 try simp (maxSteps:=9^9) only[go_sem]
 repeat refine AI ?_
 refine cw c3 ?_
 try simp (maxSteps:=9^9) only[go_sem]
 repeat refine AI ?_
 refine cw c4 ?_
 try simp (maxSteps:=9^9) only[go_sem]
 repeat refine AI ?_
 refine cw c5 ?_
 try simp (maxSteps:=9^9) only[go_sem]
 repeat refine AI ?_
 refine cw c6 ?_
 try simp (maxSteps:=9^9) only[go_sem]
 repeat refine AI ?_
 refine cw c7 ?_
 try simp (maxSteps:=9^9) only[go_sem]
 repeat refine AI ?_
 refine cw c8 ?_
 try simp (maxSteps:=9^9) only[go_sem]
 all_goals repeat refine AI ?_
 all_goals first|kernel_rfl|omega|rfl
def ptV (v:DV):DP:=(ratI v.1,ratI v.2)
theorem PointOfI_fn (v:DV):Fn Tryz.prog 184 [⟨tVec,v⟩] true [⟨tPoint,ptV v⟩]:=by
 have c1:=ratInt_fn v.1
 have c2:=ratInt_fn v.2
 unfold ptV
 refine fe Tryz.func184 Tryz.ntmps184 Tryz.results184 fun hwf=>?_
 try simp (maxSteps:=9^9) only[go_sem]
 repeat refine AI ?_
 refine cw c1 ?_
 try simp (maxSteps:=9^9) only[go_sem]
 repeat refine AI ?_
 refine cw c2 ?_
 try simp (maxSteps:=9^9) only[go_sem]
 all_goals repeat refine AI ?_
 all_goals first|kernel_rfl|omega|rfl
theorem PointOfS_fn (v:DV):Fn Tryz.prog 32 [⟨tVec,v⟩] true [⟨tPoint,ptV v⟩]:=by
 have c1:=RatFromInt_fn v.1
 have c2:=RatFromInt_fn v.2
 unfold ptV
 refine fe Tryz.func32 Tryz.ntmps32 Tryz.results32 fun hwf=>?_
 try simp (maxSteps:=9^9) only[go_sem]
 repeat refine AI ?_
 refine cw c1 ?_
 try simp (maxSteps:=9^9) only[go_sem]
 repeat refine AI ?_
 refine cw c2 ?_
 try simp (maxSteps:=9^9) only[go_sem]
 all_goals repeat refine AI ?_
 all_goals first|kernel_rfl|omega|rfl
theorem okR_ratI {n:Int} (h1:-1000<=n) (h2:n<=1000):okR (ratI n)=true:=by
 have ho:okO (some ((n:Int):Rat)):=by
  intro q hq; injection hq with hq; subst hq
  exact ⟨Nat.le_trans (nl_small (n:=n.natAbs) (by omega)) (by decide),Nat.le_trans (nl_small (n:=1) (by decide)) (by decide)⟩
 rw [show ratI n=oD (some ((n:Int):Rat)) from ratI_eq n]
 unfold okR
 rw [rdO_oD ho]; rfl
theorem okPt_ptV {v:DV} (h:okV v=true):okPt (ptV v)=true:=by
 obtain ⟨b1,b2,b3,b4⟩:=okV_b h
 show (okR (ratI v.1) && okR (ratI v.2))=true
 rw [okR_ratI b1 b2,okR_ratI b3 b4]; rfl
def mapp (l:List DV) (i:Nat):List DP:=(l.take i).map ptV
theorem mapp_step {l:List DV} {i:Nat} (h:i < l.length):mapp l (i+1)=mapp l i++[ptV (nth (t:=tVec) l i)]:=by
 unfold mapp
 rw [List.take_succ_eq_append_getElem h,nth_lt h,List.map_append]
 rfl
theorem mapp_len {l:List DV} {i:Nat} (h:i<=l.length):(mapp l i).length=i:=by
 unfold mapp
 rw [List.length_map,List.length_take]; omega
theorem mapp_all {l:List DV} {i:Nat} (h:l.length<=i):mapp l i=l.map ptV:=by
 unfold mapp
 rw [List.take_of_length_le h]
theorem pointsOf_fn (l:List DV) (hn:l.length<=1048576):Fn Tryz.prog 146 [⟨.slice tVec,l⟩] true [⟨.slice tPoint,l.map ptV⟩]:=by
 refine fe Tryz.func146 Tryz.ntmps146 Tryz.results146 fun hwf=>?_
 try simp (maxSteps:=9^9) only[go_sem]
 refine LoopG.intro _ _ _ (fun i:Nat=>⟨[(3,.row 0 0),(7,.sl tVec l),(8,.sc (.int .i64 l.length)),(9,.sc (.int .i64 i))],[(0,.row 33 tPoint 0 true (mapp l i))]⟩) (fun i=>i<=l.length) (fun i=>l.length - i) 0 ?_ (Nat.zero_le _) ?_
 ·refine Wk.mk [] ?_
  try simp (maxSteps:=9^9) only[go_sem]
  try (and_intros<;>first|rfl|omega|exact ⟨_,rfl⟩)
  all_goals (first|exact ⟨rfl,rfl⟩|rfl)
 ·rintro i hi
  try simp (maxSteps:=9^9) only[go_sem]
  refine CondW_dec (fun hA=>?_) (fun hA=>?_)
  ·have hlt:i < l.length:=by omega
   have hml:=mapp_len (l:=l) (i:=i) (by omega)
   have e:=mapp_step hlt
   have c2:=PointOfI_fn (nth (t:=tVec) l i)
   try simp (maxSteps:=9^9) only[go_sem]
   repeat refine AI ?_
   repeat refine AI ?_
   refine cw c2 ?_
   try simp (maxSteps:=9^9) only[go_sem]
   try simp (maxSteps:=9^9) only[go_sem,hml]
   repeat refine AI ?_
   refine LoopK.mk (i+1) ?_ (by omega) (by omega)
   rw [e]
   refine Wk.mk [] ?_
   try simp (maxSteps:=9^9) only[go_sem]
   try (and_intros<;>first|rfl|omega|exact ⟨_,rfl⟩)
   all_goals (first|exact ⟨by omega,rfl⟩|exact ⟨rfl,rfl⟩)
  ·rw [mapp_all (by omega)]
   try simp (maxSteps:=9^9) only[go_sem]
noncomputable def cntI (l:List DV) (p:DP):Nat->Int
 | 0=>1
 | i+1=>min (cntI l p i) (sdP (ptV (nth (t:=tVec) l i)) (ptV (nth (t:=tVec) l (nxt l.length i).toNat)) p)
theorem nth_ptV {l:List DV} {i:Nat} (h:i < l.length):nth (t:=tPoint) (l.map ptV) i=ptV (nth (t:=tVec) l i):=by
 rw [nth_lt (t:=tVec) h,nth_lt (t:=tPoint) (l:=l.map ptV) (by rw [List.length_map]; exact h),List.getElem_map]
theorem contains_fn (l:List DV) (p:DP) (hl:∀ v ∈ l,okV v=true) (hn:l.length<=1048576) (hp:okPt p=true):Fn Tryz.prog 105 [⟨.slice tVec,l⟩,⟨tPoint,p⟩] false [⟨.int,cntI l p l.length⟩]:=by
 have c1:=pointsOf_fn l hn
 have hml:(l.map ptV).length=l.length:=List.length_map ..
 refine fe Tryz.func105 Tryz.ntmps105 Tryz.results105 fun hwf=>?_
 try simp (maxSteps:=9^9) only[go_sem]
 repeat refine AI ?_
 refine cw c1 ?_
 try simp (maxSteps:=9^9) only[go_sem]
 try simp (maxSteps:=9^9) only[go_sem,hml]
 refine LoopG.intro _ _ _ (fun i:Nat=>⟨[(3,.ptr 0 0),(5,.sl tPoint (l.map ptV)),(6,.sc (.int .i64 (cntI l p i))),(11,.sl tPoint (l.map ptV)),(12,.sc (.int .i64 l.length)),(13,.sc (.int .i64 i))],[(0,.box (cel tPoint p))]⟩) (fun i=>i<=l.length) (fun i=>l.length - i) 0 ?_ (Nat.zero_le _) ?_
 ·refine Wk.mk [] ?_
  try simp (maxSteps:=9^9) only[go_sem]
  try (and_intros<;>first|rfl|omega|exact ⟨_,rfl⟩)
  trace_state
 ·rintro i hi
  try simp (maxSteps:=9^9) only[go_sem]
  refine CondW_dec (fun hA=>?_) (fun hA=>?_)
  ·have hlt:i < l.length:=by omega
   have hr:=nxt_rng (n:=l.length) (i:=i) (by omega)
   have hr2:(nxt l.length i).toNat < l.length:=by omega
   have c2:=side_fn (ptV (nth (t:=tVec) l i)) (ptV (nth (t:=tVec) l (nxt l.length i).toNat)) p (okPt_ptV (hl _ (nth_mem hlt))) (okPt_ptV (hl _ (nth_mem hr2))) hp
   rw [<-nth_ptV hlt,<-nth_ptV hr2] at c2
   unfold nxt at hr hr2 c2
   try simp (maxSteps:=9^9) only[go_sem,hml]
   repeat refine AI ?_
   refine RemW.pos (by omega) (by omega) ?_
   try simp (maxSteps:=9^9) only[go_sem,hml]
   repeat refine AI ?_
   refine cw c2 ?_
   try simp (maxSteps:=9^9) only[go_sem]
   repeat refine AI ?_
   have hst:cntI l p (i+1)=min (cntI l p i) (sdP (nth (t:=tPoint) (l.map ptV) i) (nth (t:=tPoint) (l.map ptV) (((i:Int)+1) % (l.length:Int)).toNat) p):=by
    rw [nth_ptV hlt,nth_ptV hr2]; rfl
   refine LoopK.mk (i+1) ?_ (by omega) (by omega)
   rw [hst]
   exact WK
  ·rw [show l.length=i by omega]
   try simp (maxSteps:=9^9) only[go_sem]
   all_goals repeat refine AI ?_
   all_goals first|kernel_rfl|omega|rfl
def crs (u v:DV):Int:=u.1 * v.2 - u.2 * v.1
def dt (u v:DV):Int:=u.1 * v.1+u.2 * v.2
def sbV (a b:DV):DV:=(a.1 - b.1,a.2 - b.2)
def Rt (d:DV):Prop:=0 < d.1\/d.1=0/\0 < d.2
theorem Rt_of {a b:DV} (h:ltV a b):Rt (sbV b a):=by unfold ltV at h; unfold Rt sbV; simp only; omega
theorem crs_nn {u v w:DV} (hu:Rt u) (hv:Rt v) (hw:Rt w) (h1:0<=crs u v) (h2:0<=crs v w):0<=crs u w:=by
 have key:v.1 * crs u w=u.1 * crs v w+w.1 * crs u v:=by unfold crs; grind
 have u1:0<=u.1:=by unfold Rt at hu; omega
 have w1:0<=w.1:=by unfold Rt at hw; omega
 rcases hv with hv|⟨hv,hv2⟩
 ·by_cases hc:0<=crs u w
  ·exact hc
  ·have h3:=Int.mul_neg_of_pos_of_neg hv (show crs u w < 0 by omega)
   have h4:=Int.mul_nonneg u1 h2
   have h5:=Int.mul_nonneg w1 h1
   omega
 ·have e:crs v w=-(v.2 * w.1):=by unfold crs; rw [hv]; grind
  have hw0:w.1=0:=by
   by_cases hp:0 < w.1
   ·have:=Int.mul_pos hv2 hp
    omega
   ·omega
  have hw2:0 < w.2:=by unfold Rt at hw; omega
  have e2:crs u w=u.1 * w.2:=by unfold crs; rw [hw0]; grind
  rw [e2]
  exact Int.mul_nonneg u1 (Int.le_of_lt hw2)
theorem crs_sw (u v:DV):crs u v=- crs v u:=by unfold crs; grind
theorem crs_pn {u v w:DV} (hu:Rt u) (hv:Rt v) (hw:Rt w) (h1:0 < crs u v) (h2:0<=crs v w):0 < crs u w:=by
 have h3:=crs_nn hu hv hw (Int.le_of_lt h1) h2
 by_cases hc:crs u w=0
 ·have h4:=crs_nn hv hw hu h2 (by rw [crs_sw]; omega)
  rw [crs_sw] at h4
  omega
 ·omega
theorem crs_np {u v w:DV} (hu:Rt u) (hv:Rt v) (hw:Rt w) (h1:0<=crs u v) (h2:0 < crs v w):0 < crs u w:=by
 have h3:=crs_nn hu hv hw h1 (Int.le_of_lt h2)
 by_cases hc:crs u w=0
 ·have h4:=crs_nn hw hu hv (by rw [crs_sw]; omega) h1
  rw [crs_sw] at h4
  omega
 ·omega
theorem trn_crs (a b c:DV):trn a b c=crs (sbV b a) (sbV c a):=rfl
theorem trn_crs2 (a b c:DV):trn a b c=crs (sbV b a) (sbV c b):=by unfold trn crs sbV; grind
theorem trn_add (a b x y:DV):trn a b y=crs (sbV b a) (sbV y x)+trn a b x:=by unfold trn crs sbV; grind
theorem trn_aa (a b:DV):trn a b a=0:=by unfold trn; grind
theorem trn_bb (a b:DV):trn a b b=0:=by unfold trn; grind
def edg:List DV->List (DV × DV)
 | b :: a :: l=>(a,b) :: edg (a :: l)
 | _=>[]
def dir (e:DV × DV):DV:=sbV e.2 e.1
theorem edg_cons {v b:DV} {l:List DV}:edg (v :: b :: l)=(b,v) :: edg (b :: l):=rfl
theorem edg_mem:∀ {r:List DV} {e:DV × DV},e ∈ edg r->e.1 ∈ r/\e.2 ∈ r
 | [],e,h=>by simp [edg] at h
 | [a],e,h=>by simp [edg] at h
 | b :: a :: l,e,h=>by
  rw [edg_cons] at h
  rcases List.mem_cons.1 h with rfl|h
  ·exact ⟨by simp,by simp⟩
  ·obtain ⟨h1,h2⟩:=edg_mem h
   exact ⟨List.mem_cons_of_mem _ h1,List.mem_cons_of_mem _ h2⟩
structure ChOK (P:DV->Prop) (r:List DV):Prop where
 desc:r.Pairwise (fun x y=>ltV y x)
 cvx:(edg r).Pairwise (fun e f=>0 < crs (dir f) (dir e))
 low:∀ e ∈ edg r,∀ p,P p->0<=trn e.1 e.2 p
 str:∀ e ∈ edg r,∀ x ∈ r,x=e.1\/x=e.2\/0 < trn e.1 e.2 x
 sub:∀ x ∈ r,P x
theorem edg_lt:∀ {r:List DV} {e:DV × DV},r.Pairwise (fun x y=>ltV y x)->e ∈ edg r->ltV e.1 e.2
 | [],e,_,h=>by simp [edg] at h
 | [a],e,_,h=>by simp [edg] at h
 | b :: a :: l,e,hd,h=>by
  rw [edg_cons] at h
  rw [List.pairwise_cons] at hd
  rcases List.mem_cons.1 h with rfl|h
  ·exact hd.1 a (by simp)
  ·exact edg_lt hd.2 h
theorem ChOK.tail {P:DV->Prop} {b:DV} {l:List DV} (h:ChOK P (b :: l)):ChOK P l:=by
 have hd:=(List.pairwise_cons.1 h.desc).2
 cases l with
 | nil=>exact ⟨List.Pairwise.nil,List.Pairwise.nil,(fun e he=>by simp [edg] at he),(fun e he=>by simp [edg] at he),(fun x hx=>by simp at hx)⟩
 | cons a l =>
  have hc:=h.cvx
  rw [edg_cons] at hc
  exact ⟨hd,(List.pairwise_cons.1 hc).2,fun e he=>h.low e (by rw [edg_cons]; exact List.mem_cons_of_mem _ he),fun e he x hx=>h.str e (by rw [edg_cons]; exact List.mem_cons_of_mem _ he) x (List.mem_cons_of_mem _ hx),fun x hx=>h.sub x (List.mem_cons_of_mem _ hx)⟩
structure Popped (P:DV->Prop) (v:DV) (r:List DV) (b:DV) (l:List DV):Prop where
 ok:ChOK P (b :: l)
 last:∀ x,r.getLast? = some x->(b :: l).getLast? = some x
 stop:∀ a l',l=a :: l'->0 < trn a b v
 gone:(∃ l',r=b :: l')\/∃ c,ltV b c/\P c/\trn b c v<=0/\∀ p,P p->0<=trn b c p
theorem popD_ok {P:DV->Prop} {v:DV}:∀ {r:List DV} {b0:DV} {l0:List DV},r=b0 :: l0->ChOK P r->∃ b l,popD v r=b :: l/\Popped P v r b l
 | [],_,_,h,_=>by cases h
 | [a],_,_,_,hc=>⟨a,[],rfl,hc,fun x hx=>hx,(fun a l' h=>by cases h),.inl ⟨[],rfl⟩⟩
 | b :: a :: l,_,_,_,hc=>by
  by_cases ht:trn a b v<=0
  ·obtain ⟨b',l',e,hp⟩:=popD_ok (v:=v) (r:=a :: l) rfl hc.tail
   refine ⟨b',l',by rw [popD,if_pos ht]; exact e,hp.ok,fun x hx=>hp.last x (by rw [List.getLast?_cons_cons] at hx; exact hx),hp.stop,.inr ?_⟩
   rcases hp.gone with ⟨l2,h2⟩|h2
   ·injection h2 with h2 _
    subst h2
    exact ⟨b,(List.pairwise_cons.1 hc.desc).1 a (by simp),hc.sub b (by simp),ht,fun p hp=>hc.low (a,b) (by rw [edg_cons]; simp) p hp⟩
   ·exact h2
  ·exact ⟨b,a :: l,by rw [popD,if_neg ht],hc,fun x hx=>hx,(fun a' l' h=>by injection h with h _; subst h; omega),.inl ⟨a :: l,rfl⟩⟩
theorem push_ok {P:DV->Prop} {v b m:DV} {r l:List DV} (hp:Popped P v r b l) (hv:∀ p,P p->ltV p v) (hm:r.getLast? = some m) (hmin:∀ p,P p->p=m\/ltV m p) (htop:∀ t l',r=t :: l'->∀ p,P p->p=t\/ltV p t) :
  ChOK (fun p=>p=v\/P p) (v :: b :: l):=by
 have hb:P b:=hp.ok.sub b (by simp)
 have hbv:=hv b hb
 have rv:=Rt_of hbv
 have hml:=hp.last m hm
 have left:∀ p,P p->ltV p b->0 < trn b v p:=by
  intro p hP hlt
  cases l with
  | nil =>
   simp at hml
   subst hml
   rcases hmin p hP with rfl|h
   ·exact absurd hlt (ltV_irrefl _)
   ·exact absurd hlt (ltV_asymm h)
  | cons a l' =>
   have h1:=hp.stop a l' rfl
   have h2:=hp.ok.low (a,b) (by rw [edg_cons]; simp) p hP
   have hab:=(List.pairwise_cons.1 hp.ok.desc).1 a (by simp)
   rw [trn_crs2] at h1 h2
   have h3:0<=crs (sbV b p) (sbV b a):=by
    have:crs (sbV b p) (sbV b a)=crs (sbV b a) (sbV p b):=by unfold crs sbV; grind
    rw [this]; exact h2
   have h4:=crs_np (Rt_of hlt) (Rt_of hab) rv h3 h1
   have:trn b v p=crs (sbV b p) (sbV v b):=by unfold trn crs sbV; grind
   rw [this]; exact h4
 have all:∀ p,P p->0<=trn b v p:=by
  intro p hP
  rcases ltV_tri p b with h|h|h
  ·exact Int.le_of_lt (left p hP h)
  ·subst h; rw [trn_aa]; exact Int.le_refl _
  ·rcases hp.gone with ⟨l',hr⟩|⟨c,h1,h2,h3,h4⟩
   ·rcases htop b l' hr p hP with rfl|h5
    ·exact absurd h (ltV_irrefl _)
    ·exact absurd h (ltV_asymm h5)
   ·have h5:=h4 p hP
    rw [trn_crs] at h3 h5
    rw [trn_crs]
    exact crs_nn rv (Rt_of h1) (Rt_of h) (by rw [crs_sw]; omega) h5
 have bend:∀ f ∈ edg (b :: l),0 < crs (dir f) (sbV v b):=by
  intro f hf
  cases l with
  | nil=>simp [edg] at hf
  | cons a l' =>
   have h1:=hp.stop a l' rfl
   rw [trn_crs2] at h1
   have hab:=(List.pairwise_cons.1 hp.ok.desc).1 a (by simp)
   have hc:=hp.ok.cvx
   rw [edg_cons] at hc hf
   rcases List.mem_cons.1 hf with rfl|hf
   ·exact h1
   ·have h2:=(List.pairwise_cons.1 hc).1 f hf
    have h3:=edg_lt (List.pairwise_cons.1 hp.ok.desc).2 hf
    exact crs_pn (Rt_of h3) (Rt_of hab) rv h2 (Int.le_of_lt h1)
 have oldv:∀ f ∈ edg (b :: l),0 < trn f.1 f.2 v:=by
  intro f hf
  have h1:=bend f hf
  have h2:=hp.ok.low f hf b hb
  rw [trn_add f.1 f.2 b v]
  unfold dir at h1
  omega
 refine ⟨List.pairwise_cons.2 ⟨fun x hx=>hv x (hp.ok.sub x hx),hp.ok.desc⟩,?_,?_,?_,?_⟩
 ·rw [edg_cons]
  exact List.pairwise_cons.2 ⟨fun f hf=>bend f hf,hp.ok.cvx⟩
 ·intro e he p hP
  rw [edg_cons] at he
  rcases List.mem_cons.1 he with rfl|he2
  ·rcases hP with rfl|hP
   ·show 0<=trn b p p; rw [trn_bb]; exact Int.le_refl _
   ·exact all p hP
  ·rcases hP with rfl|hP
   ·exact Int.le_of_lt (oldv e he2)
   ·exact hp.ok.low e he2 p hP
 ·intro e he x hx
  rw [edg_cons] at he
  rcases List.mem_cons.1 he with rfl|he2
  ·rcases List.mem_cons.1 hx with rfl|hx
   ·exact .inr (.inl rfl)
   ·rcases List.mem_cons.1 hx with rfl|hx
    ·exact .inl rfl
    ·exact .inr (.inr (left x (hp.ok.sub x (List.mem_cons_of_mem _ hx)) ((List.pairwise_cons.1 hp.ok.desc).1 x hx)))
  ·rcases List.mem_cons.1 hx with rfl|hx
   ·exact .inr (.inr (oldv e he2))
   ·exact hp.ok.str e he2 x hx
 ·intro x hx
  rcases List.mem_cons.1 hx with rfl|hx
  ·exact .inl rfl
  ·exact .inr (hp.ok.sub x hx)
theorem chR_ok:∀ (n:Nat) {l:List DV},l.length=n+1->l.Pairwise ltV →
  ∃ t r,chR l=t :: r/\(chR l).getLast? = l.head?/\l.getLast? = some t/\ChOK (fun p=>p ∈ l) (chR l)
 | 0,l,hl,hs=>by
  match l,hl with
  | [a],_=>exact ⟨a,[],rfl,rfl,rfl,⟨List.pairwise_singleton _ _,List.Pairwise.nil,(fun e he=>by simp [chR,popD,edg] at he),(fun e he=>by simp [chR,popD,edg] at he),fun x hx=>hx⟩⟩
 | n+1,l,hl,hs=>by
  obtain ⟨l',v,rfl⟩:∃ l' v,l=l'++[v]:=⟨l.dropLast,l.getLast (by intro h; rw [h] at hl; simp at hl),(List.dropLast_concat_getLast _).symm⟩
  have hl':l'.length=n+1:=by simp at hl; omega
  rw [List.pairwise_append] at hs
  obtain ⟨hs1,_,hs3⟩:=hs
  obtain ⟨t,r,e1,e2,e3,hc⟩:=chR_ok n hl' hs1
  have hst:chR (l'++[v])=v :: popD v (chR l'):=by unfold chR; rw [List.foldl_append]; rfl
  obtain ⟨b,q,e4,hp⟩:=popD_ok (v:=v) e1 hc
  obtain ⟨m,l2,rfl⟩:∃ m l2,l'=m :: l2:=by
   cases l' with
   | nil=>simp at hl'
   | cons m l2=>exact ⟨m,l2,rfl⟩
  have hlast:(chR (m :: l2)).getLast? = some m:=e2
  have hpush:=push_ok hp (fun p hpm=>hs3 p hpm v (by simp)) hlast (fun p hpm=>by
   rcases List.mem_cons.1 hpm with h|h
   ·exact .inl h
   ·exact .inr ((List.pairwise_cons.1 hs1).1 p h)) (fun t' l3 ht p hpm=>by
   rw [e1] at ht
   injection ht with ht _
   subst ht
   have hgl:(m :: l2).getLast? = some t:=e3
   obtain ⟨ys,hys⟩:=List.getLast?_eq_some_iff.1 hgl
   rw [hys] at hpm hs1
   rw [List.pairwise_append] at hs1
   rcases List.mem_append.1 hpm with h|h
   ·exact .inr (hs1.2.2 p h t (by simp))
   ·exact .inl (by simpa using h))
  refine ⟨v,popD v (chR (m :: l2)),hst,?_,List.getLast?_concat,?_⟩
  ·rw [hst,e4,List.getLast?_cons_cons,hp.last m hlast]; rfl
  ·rw [hst,e4]
   refine ⟨hpush.desc,hpush.cvx,fun e he p hpm=>hpush.low e he p ?_,hpush.str,fun x hx=>?_⟩
   ·rcases List.mem_append.1 hpm with h|h
    ·exact .inr h
    ·exact .inl (by simpa using h)
   ·rcases hpush.sub x hx with rfl|h
    ·simp
    ·exact List.mem_append.2 (.inl h)
def ngV (v:DV):DV:=(-v.1,-v.2)
theorem ngV_ngV (v:DV):ngV (ngV v)=v:=by unfold ngV; simp
theorem trn_ng (a b c:DV):trn (ngV a) (ngV b) (ngV c)=trn a b c:=by unfold trn ngV; grind
theorem ltV_ng {a b:DV}:ltV (ngV a) (ngV b) ↔ ltV b a:=by unfold ltV ngV; simp only; omega
theorem popD_ng (v:DV):∀ r:List DV,popD (ngV v) (r.map ngV)=(popD v r).map ngV
 | []=>rfl
 | [a]=>rfl
 | b :: a :: l=>by
  have ih:=popD_ng v (a :: l)
  simp only [List.map_cons] at ih ⊢
  rw [popD,popD,trn_ng]
  split
  ·exact ih
  ·rfl
theorem chR_ng (l:List DV):chR (l.map ngV)=(chR l).map ngV:=by
 unfold chR
 have:∀ (l s:List DV),(l.map ngV).foldl (fun c v=>v :: popD v c) (s.map ngV)=(l.foldl (fun c v=>v :: popD v c) s).map ngV:=by
  intro l
  induction l with
  | nil=>intro s; rfl
  | cons a l ih =>
   intro s
   rw [List.map_cons,List.foldl_cons,List.foldl_cons,popD_ng]
   exact ih (a :: popD a s)
 exact this l []
def ngE (e:DV × DV):DV × DV:=(ngV e.1,ngV e.2)
theorem edg_ng:∀ r:List DV,edg (r.map ngV)=(edg r).map ngE
 | []=>rfl
 | [a]=>rfl
 | b :: a :: l=>by
  have ih:=edg_ng (a :: l)
  simp only [List.map_cons] at ih ⊢
  rw [edg_cons,edg_cons,ih]; rfl
theorem edg_ng_mem {r:List DV} {e:DV × DV} (h:e ∈ edg r):ngE e ∈ edg (r.map ngV):=by rw [edg_ng]; exact List.mem_map_of_mem h
theorem map_ng_ng (r:List DV):(r.map ngV).map ngV=r:=by
 rw [List.map_map,show (ngV ∘ ngV)=id from funext ngV_ngV,List.map_id]
theorem inner_of {P:DV->Prop} {x:DV}:∀ {r:List DV},ChOK P r->x ∈ r->r.head? = some x\/r.getLast? = some x\/∃ p q,(p,x) ∈ edg r/\(x,q) ∈ edg r/\0 < crs (sbV x p) (sbV q x)
 | [],_,h=>by simp at h
 | [a],_,h=>by simp at h; subst h; exact .inl rfl
 | q :: y :: l,hc,h=>by
  rcases List.mem_cons.1 h with rfl|h
  ·exact .inl rfl
  ·rcases inner_of hc.tail h with h1|h1|⟨p,q',h1,h2,h3⟩
   ·simp at h1
    subst h1
    cases l with
    | nil=>exact .inr (.inl rfl)
    | cons p l =>
     have hcv:=hc.cvx
     rw [edg_cons,edg_cons] at hcv
     refine .inr (.inr ⟨p,q,by rw [edg_cons,edg_cons]; simp,by rw [edg_cons]; simp,?_⟩)
     exact (List.pairwise_cons.1 hcv).1 (p,y) (by simp)
   ·exact .inr (.inl (by rw [List.getLast?_cons_cons]; exact h1))
   ·exact .inr (.inr ⟨p,q',by rw [edg_cons]; exact List.mem_cons_of_mem _ h1,by rw [edg_cons]; exact List.mem_cons_of_mem _ h2,h3⟩)
theorem cross_str {P:DV->Prop} {R R':List DV} (h:ChOK P R) (h':ChOK (fun p=>P (ngV p)) (R'.map ngV)) {x:DV} (hx:x ∈ R') :
  R'.head? = some x\/R'.getLast? = some x\/∀ e ∈ edg R,0 < trn e.1 e.2 x:=by
 have hx':ngV x ∈ R'.map ngV:=List.mem_map_of_mem hx
 have inj:∀ {a b:DV},ngV a=ngV b->a=b:=fun {a b} e=>by rw [<-ngV_ngV a,e,ngV_ngV]
 rcases inner_of h' hx' with h1|h1|⟨p,q,h1,h2,h3⟩
 ·rw [List.head?_map] at h1
  obtain ⟨a,ha,e⟩:=Option.map_eq_some_iff.1 h1
  exact .inl (by rw [ha,inj e])
 ·rw [List.getLast?_map] at h1
  obtain ⟨a,ha,e⟩:=Option.map_eq_some_iff.1 h1
  exact .inr (.inl (by rw [ha,inj e]))
 ·refine .inr (.inr fun e he=>?_)
  have hPp:P (ngV p):=h'.sub p (edg_mem h1).1
  have hPq:P (ngV q):=h'.sub q (edg_mem h2).2
  have hPx:P x:=by have:=h'.sub _ hx'; rw [ngV_ngV] at this; exact this
  have l1:=h.low e he _ hPp
  have l2:=h.low e he _ hPq
  have l3:=h.low e he _ hPx
  by_cases hz:trn e.1 e.2 x=0
  ·exfalso
   have hd:=Rt_of (edg_lt h.desc he)
   have ha:=Rt_of (edg_lt h'.desc h1)
   have hb:=Rt_of (edg_lt h'.desc h2)
   rw [trn_add e.1 e.2 x,hz] at l1 l2
   have e1:crs (sbV e.2 e.1) (sbV (ngV p) x)=crs (sbV e.2 e.1) (sbV (ngV x) p):=by unfold crs sbV ngV; grind
   have e2:crs (sbV e.2 e.1) (sbV (ngV q) x)=crs (sbV q (ngV x)) (sbV e.2 e.1):=by unfold crs sbV ngV; grind
   rw [e1] at l1
   rw [e2] at l2
   have:=crs_pn ha hb hd h3 (by show 0<=crs (sbV q (ngV x)) (sbV e.2 e.1); omega)
   rw [crs_sw] at this
   simp only at this
   omega
  ·omega
theorem edg_idx:∀ {r:List DV} {i:Nat},i+1 < r.length->(nth (t:=tVec) r (i+1),nth (t:=tVec) r i) ∈ edg r
 | [],i,h=>by simp at h
 | [a],i,h=>by simp at h
 | b :: a :: l,0,h=>by rw [edg_cons]; exact List.mem_cons_self
 | b :: a :: l,i+1,h=>by
  rw [edg_cons]
  refine List.mem_cons_of_mem _ ?_
  have:=edg_idx (r:=a :: l) (i:=i) (by simp at h ⊢; omega)
  simpa [nth] using this
theorem nth_rev {r:List DV} {i:Nat} (h:i < r.length):nth (t:=tVec) r.reverse i=nth (t:=tVec) r (r.length - 1 - i):=by
 rw [nth_lt (by rw [List.length_reverse]; exact h),nth_lt (by omega),List.getElem_reverse]
theorem nth_dl {r:List DV} {i:Nat} (h:i < r.length - 1):nth (t:=tVec) r.dropLast i=nth (t:=tVec) r i:=by
 rw [nth_lt (by rw [List.length_dropLast]; exact h),nth_lt (by omega),List.getElem_dropLast]
theorem nth_al {l m:List DV} {i:Nat} (h:i < l.length):nth (t:=tVec) (l++m) i=nth (t:=tVec) l i:=by
 rw [nth_lt (by rw [List.length_append]; omega),nth_lt h,List.getElem_append_left h]
theorem nth_ar {l m:List DV} {i:Nat} (h:l.length<=i) (h2:i < l.length+m.length):nth (t:=tVec) (l++m) i=nth (t:=tVec) m (i - l.length):=by
 rw [nth_lt (by rw [List.length_append]; omega),nth_lt (by omega),List.getElem_append_right h]
structure Cvx (P:DV->Prop) (H:List DV):Prop where
 three:3<=H.length
 nodup:H.Nodup
 str:∀ i,i < H.length->∀ x ∈ H,x=nth (t:=tVec) H i\/x=nth (t:=tVec) H (nxt H.length i).toNat\/0 < trn (nth (t:=tVec) H i) (nth (t:=tVec) H (nxt H.length i).toNat) x
 low:∀ i,i < H.length->∀ p,P p->0<=trn (nth (t:=tVec) H i) (nth (t:=tVec) H (nxt H.length i).toNat) p
 sub:∀ x ∈ H,P x
theorem nxt_lt {n i:Nat} (h:i+1 < n):(nxt n i).toNat=i+1:=by
 unfold nxt
 rw [Int.emod_eq_of_lt (by omega) (by omega)]; omega
theorem nxt_end {n i:Nat} (h:i+1=n):(nxt n i).toNat=0:=by
 unfold nxt
 rw [show ((i:Int)+1)=(n:Int) by omega,Int.emod_self]; rfl
theorem col0 {d u v:DV} (hd:d ≠ (0,0)) (h1:crs d u=0) (h2:crs d v=0):crs u v=0:=by
 have k1:d.1 * crs u v=u.1 * crs d v - v.1 * crs d u:=by unfold crs; grind
 have k2:d.2 * crs u v=u.2 * crs d v - v.2 * crs d u:=by unfold crs; grind
 rw [h1,h2,Int.mul_zero,Int.mul_zero,Int.sub_zero] at k1 k2
 rcases Int.mul_eq_zero.1 k1 with h|h
 ·rcases Int.mul_eq_zero.1 k2 with h'|h'
  ·exact absurd (Prod.ext h h') hd
  ·exact h'
 ·exact h
theorem nth_ap2 {l m:List DV} {x:DV} (k:Nat) (h:k=l.length):nth (t:=tVec) (l++x :: m) k=x:=by
 subst h
 rw [nth_lt (by simp),List.getElem_append_right (Nat.le_refl _)]
 simp
theorem nth_last {r:List DV} {x:DV} (h:r.getLast? = some x):nth (t:=tVec) r (r.length - 1)=x:=by
 obtain ⟨ys,rfl⟩:=List.getLast?_eq_some_iff.1 h
 rw [show (ys++[x]).length - 1=ys.length by simp]
 exact nth_ap2 _ rfl
theorem nth_head {r:List DV} {x:DV} (h:r.head? = some x):nth (t:=tVec) r 0=x:=by
 cases r with
 | nil=>simp at h
 | cons a r=>simp at h; exact h
theorem two_cvx {S R R':List DV} {m M:DV} (hm:m ∈ S) (hM:M ∈ S) (hmM:ltV m M) (hR:ChOK (fun p=>p ∈ S) R) (hR':ChOK (fun p=>ngV p ∈ S) (R'.map ngV)) (hh:R.head? = some M) (hl:R.getLast? = some m) (hh':R'.head? = some m) (hl':R'.getLast? = some M)
  (hn:∃ a ∈ S,∃ b ∈ S,∃ c ∈ S,trn a b c ≠ 0):Cvx (fun p=>p ∈ S) (R.reverse.dropLast++R'.reverse.dropLast):=by
 have inj:∀ {a b:DV},ngV a=ngV b->a=b:=fun {a b} e=>by rw [<-ngV_ngV a,e,ngV_ngV]
 have hne:m ≠ M:=fun h=>by subst h; exact ltV_irrefl _ hmM
 have k1:2<=R.length:=by
  match R,hh,hl with
  | [a],h1,h2=>simp at h1 h2; exact absurd (h2.symm.trans h1) hne
  | _ :: _ :: _,_,_=>simp
 have k2:2<=R'.length:=by
  match R',hh',hl' with
  | [a],h1,h2=>simp at h1 h2; exact absurd (h1.symm.trans h2) hne
  | _ :: _ :: _,_,_=>simp
 have mR:m ∈ R:=List.mem_of_getLast? hl
 have MR:M ∈ R:=List.mem_of_head? hh
 have mR':m ∈ R':=List.mem_of_head? hh'
 have MR':M ∈ R':=List.mem_of_getLast? hl'
 have hR2:ChOK (fun p=>ngV (ngV p) ∈ S) ((R.map ngV).map ngV):=by rw [map_ng_ng]; simpa [ngV_ngV] using hR
 have bnd:∀ e,(e ∈ edg R\/e ∈ edg R')->(∀ p ∈ S,0<=trn e.1 e.2 p)/\∀ x,(x ∈ R\/x ∈ R')->x=e.1\/x=e.2\/0 < trn e.1 e.2 x:=by
  rintro e (he|he)
  ·refine ⟨hR.low e he,fun x hx=>?_⟩
   rcases hx with hx|hx
   ·exact hR.str e he x hx
   ·rcases cross_str hR hR' hx with h|h|h
    ·rw [hh'] at h; injection h with h; subst h; exact hR.str e he m mR
    ·rw [hl'] at h; injection h with h; subst h; exact hR.str e he M MR
    ·exact .inr (.inr (h e he))
  ·have he':=edg_ng_mem he
   have key:∀ x,ngV x ∈ R'.map ngV->x=e.1\/x=e.2\/0 < trn e.1 e.2 x:=by
    intro x hx
    rcases hR'.str _ he' _ hx with h|h|h
    ·exact .inl (inj h)
    ·exact .inr (.inl (inj h))
    ·exact .inr (.inr (by rw [<-trn_ng]; exact h))
   refine ⟨fun p hp=>?_,fun x hx=>?_⟩
   ·have:=hR'.low _ he' (ngV p) (by rw [ngV_ngV]; exact hp)
    rw [<-trn_ng]; exact this
   ·rcases hx with hx|hx
    ·rcases cross_str hR' hR2 (List.mem_map_of_mem hx) with h|h|h
     ·rw [List.head?_map,hh] at h; injection h with h; rw [<-inj h]; exact key M (List.mem_map_of_mem MR')
     ·rw [List.getLast?_map,hl] at h; injection h with h; rw [<-inj h]; exact key m (List.mem_map_of_mem mR')
     ·exact .inr (.inr (by rw [<-trn_ng]; exact h _ he'))
    ·exact key x (List.mem_map_of_mem hx)
 have lL:R.reverse.length=R.length:=List.length_reverse
 have lU:R'.reverse.length=R'.length:=List.length_reverse
 have lLd:R.reverse.dropLast.length=R.length - 1:=by rw [List.length_dropLast,lL]
 have lUd:R'.reverse.dropLast.length=R'.length - 1:=by rw [List.length_dropLast,lU]
 have hH:(R.reverse.dropLast++R'.reverse.dropLast).length=(R.length - 1)+(R'.length - 1):=by rw [List.length_append,lLd,lUd]
 have iL:∀ i,i < R.length - 1->nth (t:=tVec) (R.reverse.dropLast++R'.reverse.dropLast) i=nth (t:=tVec) R (R.length - 1 - i):=fun i hi=>by
  rw [nth_al (by omega),nth_dl (by omega),nth_rev (by omega)]
 have iU:∀ j,j < R'.length - 1->nth (t:=tVec) (R.reverse.dropLast++R'.reverse.dropLast) (R.length - 1+j)=nth (t:=tVec) R' (R'.length - 1 - j):=fun j hj=>by
  rw [nth_ar (by omega) (by omega),lLd,show R.length - 1+j - (R.length - 1)=j by omega,nth_dl (by omega),nth_rev (by omega)]
 have r0:=nth_head hh
 have r1:=nth_last hl
 have s0:=nth_head hh'
 have s1:=nth_last hl'
 have iedg:∀ i,i < (R.length - 1)+(R'.length - 1)->(nth (t:=tVec) (R.reverse.dropLast++R'.reverse.dropLast) i,nth (t:=tVec) (R.reverse.dropLast++R'.reverse.dropLast) (nxt ((R.length - 1)+(R'.length - 1)) i).toNat) ∈ edg R\/(nth (t:=tVec) (R.reverse.dropLast++R'.reverse.dropLast) i,nth (t:=tVec) (R.reverse.dropLast++R'.reverse.dropLast) (nxt ((R.length - 1)+(R'.length - 1)) i).toNat) ∈ edg R':=by
  intro i hi
  by_cases h:i < R.length - 1
  ·left
   have e:=edg_idx (r:=R) (i:=R.length - 2 - i) (by omega)
   rw [nxt_lt (by omega),iL i h]
   have h2:nth (t:=tVec) (R.reverse.dropLast++R'.reverse.dropLast) (i+1)=nth (t:=tVec) R (R.length - 2 - i):=by
    by_cases h3:i+1 < R.length - 1
    ·rw [iL _ h3]; congr 1; omega
    ·rw [show i+1=R.length - 1+0 by omega,iU 0 (by omega),show R'.length - 1 - 0=R'.length - 1 by omega,s1,show R.length - 2 - i=0 by omega,r0]
   rw [h2,show R.length - 1 - i=R.length - 2 - i+1 by omega]
   exact e
  ·right
   obtain ⟨j,rfl⟩:∃ j,i=R.length - 1+j:=⟨i - (R.length - 1),by omega⟩
   have e:=edg_idx (r:=R') (i:=R'.length - 2 - j) (by omega)
   rw [iU j (by omega)]
   have h2:nth (t:=tVec) (R.reverse.dropLast++R'.reverse.dropLast) (nxt ((R.length - 1)+(R'.length - 1)) (R.length - 1+j)).toNat=nth (t:=tVec) R' (R'.length - 2 - j):=by
    by_cases h3:j+1 < R'.length - 1
    ·rw [nxt_lt (by omega),show R.length - 1+j+1=R.length - 1+(j+1) by omega,iU _ h3]; congr 1; omega
    ·rw [nxt_end (by omega),iL 0 (by omega),show R.length - 1 - 0=R.length - 1 by omega,r1,show R'.length - 2 - j=0 by omega,s0]
   rw [h2,show R'.length - 1 - j=R'.length - 2 - j+1 by omega]
   exact e
 have inH:∀ x,x ∈ R.reverse.dropLast++R'.reverse.dropLast->x ∈ R\/x ∈ R':=by
  intro x hx
  rcases List.mem_append.1 hx with h|h
  ·exact .inl (List.mem_reverse.1 (List.dropLast_subset _ h))
  ·exact .inr (List.mem_reverse.1 (List.dropLast_subset _ h))
 have subS:∀ x,(x ∈ R\/x ∈ R')->x ∈ S:=by
  rintro x (h|h)
  ·exact hR.sub x h
  ·have:=hR'.sub _ (List.mem_map_of_mem h); rw [ngV_ngV] at this; exact this
 have dL:R.reverse.Pairwise ltV:=List.pairwise_reverse.2 hR.desc
 have dU:R'.reverse.Pairwise (fun a b=>ltV b a):=by
  have:=hR'.desc
  rw [List.pairwise_map] at this
  exact List.pairwise_reverse.2 (this.imp fun {a b} h=>ltV_ng.1 h)
 have spL:R.reverse=R.reverse.dropLast++[M]:=by
  have:R.reverse.getLast? = some M:=by rw [List.getLast?_reverse]; exact hh
  obtain ⟨ys,hy⟩:=List.getLast?_eq_some_iff.1 this
  rw [hy]; simp
 have spU:R'.reverse=R'.reverse.dropLast++[m]:=by
  have:R'.reverse.getLast? = some m:=by rw [List.getLast?_reverse]; exact hh'
  obtain ⟨ys,hy⟩:=List.getLast?_eq_some_iff.1 this
  rw [hy]; simp
 have ltM:∀ x ∈ R.reverse.dropLast,ltV x M:=fun x hx=>by
  rw [spL] at dL
  exact (List.pairwise_append.1 dL).2.2 x hx M (by simp)
 have gtm:∀ x ∈ R'.reverse.dropLast,ltV m x:=fun x hx=>by
  rw [spU] at dU
  exact (List.pairwise_append.1 dU).2.2 x hx m (by simp)
 refine ⟨?_,?_,?_,?_,fun x hx=>subS x (inH x hx)⟩
 ·rw [hH]
  by_cases h:3<=R.length - 1+(R'.length - 1)
  ·exact h
  ·exfalso
   have h1:R.length=2:=by omega
   have h2:R'.length=2:=by omega
   have e1:=edg_idx (r:=R) (i:=0) (by omega)
   have e2:=edg_idx (r:=R') (i:=0) (by omega)
   rw [show 0+1=R.length - 1 by omega,r1,r0] at e1
   rw [show 0+1=R'.length - 1 by omega,s1,s0] at e2
   have z:∀ p ∈ S,crs (sbV M m) (sbV p m)=0:=fun p hp=>by
    have p1:=(bnd _ (.inl e1)).1 p hp
    have p2:=(bnd _ (.inr e2)).1 p hp
    have:trn M m p=- trn m M p:=by unfold trn; grind
    simp only at p1 p2
    rw [this] at p2
    rw [<-trn_crs]
    omega
   obtain ⟨a,ha,b,hb,c,hc,hne2⟩:=hn
   refine hne2 ?_
   rw [trn_crs]
   refine col0 (d:=sbV M m) (fun h=>?_) ?_ ?_
   ·have q1:=congrArg Prod.fst h
    have q2:=congrArg Prod.snd h
    unfold sbV at q1 q2
    simp only at q1 q2
    exact hne (Prod.ext (by omega) (by omega))
   ·have:crs (sbV M m) (sbV b a)=crs (sbV M m) (sbV b m) - crs (sbV M m) (sbV a m):=by unfold crs sbV; grind
    rw [this,z b hb,z a ha]; rfl
   ·have:crs (sbV M m) (sbV c a)=crs (sbV M m) (sbV c m) - crs (sbV M m) (sbV a m):=by unfold crs sbV; grind
    rw [this,z c hc,z a ha]; rfl
 ·rw [List.nodup_append]
  refine ⟨?_,?_,?_⟩
  ·exact (dL.sublist (List.dropLast_sublist _)).imp fun {a b} h e=>by subst e; exact ltV_irrefl _ h
  ·exact (dU.sublist (List.dropLast_sublist _)).imp fun {a b} h e=>by subst e; exact ltV_irrefl _ h
  ·rintro x hx y hy rfl
   have q1:=ltM x hx
   have q2:=gtm x hy
   have hxR':x ∈ R':=List.mem_reverse.1 (List.dropLast_subset _ hy)
   rcases cross_str hR hR' hxR' with h|h|h
   ·rw [hh'] at h; injection h with h; subst h; exact ltV_irrefl _ q2
   ·rw [hl'] at h; injection h with h; subst h; exact ltV_irrefl _ q1
   ·obtain ⟨i,hi,rfl⟩:=List.getElem_of_mem hx
    have hi2:i < R.length - 1:=by omega
    have e:=edg_idx (r:=R) (i:=R.length - 2 - i) (by omega)
    have e2:R.reverse.dropLast[i]=nth (t:=tVec) R (R.length - 2 - i+1):=by
     rw [<-nth_lt (t:=tVec) hi,nth_dl (by omega),nth_rev (by omega)]; congr 1; omega
    have:=h _ e
    rw [e2] at this
    simp only at this
    rw [trn_aa] at this
    omega
 ·intro i hi x hx
  rw [hH] at hi ⊢
  exact (bnd _ (iedg i hi)).2 x (inH x hx)
 ·intro i hi p hp
  rw [hH] at hi ⊢
  exact (bnd _ (iedg i hi)).1 p hp
theorem hull_cvx {S:List DV} (hs:S.Pairwise ltV) (hn:∃ a ∈ S,∃ b ∈ S,∃ c ∈ S,trn a b c ≠ 0):Cvx (fun p=>p ∈ S) (chD S++chD S.reverse):=by
 have hn':=hn
 obtain ⟨a,ha,b,hb,c,hc,hne⟩:=hn'
 obtain ⟨n,hnl⟩:∃ n,S.length=n+1:=⟨S.length - 1,by have:=List.length_pos_of_mem ha; omega⟩
 obtain ⟨t,r,e1,e2,e3,hR⟩:=chR_ok n hnl hs
 have hsr:(S.reverse.map ngV).Pairwise ltV:=by
  rw [List.pairwise_map,List.pairwise_reverse]
  exact hs.imp fun {a b} h=>ltV_ng.2 h
 obtain ⟨t',r',f1,f2,f3,hR0⟩:=chR_ok n (l:=S.reverse.map ngV) (by rw [List.length_map,List.length_reverse]; exact hnl) hsr
 rw [chR_ng] at f1 f2 hR0
 have hR':ChOK (fun p=>(ngV p) ∈ S) ((chR S.reverse).map ngV):=by
  refine ⟨hR0.desc,hR0.cvx,fun e he p hp=>hR0.low e he p ?_,hR0.str,fun x hx=>?_⟩
  ·rw [show p=ngV (ngV p) from (ngV_ngV p).symm]
   exact List.mem_map_of_mem (List.mem_reverse.2 hp)
  ·obtain ⟨y,hy,rfl⟩:=List.mem_map.1 (hR0.sub x hx)
   rw [ngV_ngV]
   exact List.mem_reverse.1 hy
 have injO:∀ {a b:Option DV},a.map ngV=b.map ngV->a=b:=by
  intro a b h
  have:=congrArg (Option.map ngV) h
  simpa [Option.map_map,show (ngV ∘ ngV)=id from funext ngV_ngV] using this
 have g2:(chR S.reverse).getLast? = S.getLast?:=by
  rw [List.getLast?_map,List.head?_map] at f2
  rw [injO f2,List.head?_reverse]
 have g3:(chR S.reverse).head? = S.head?:=by
  have h1:((chR S.reverse).map ngV).head? = some t':=by rw [f1]; rfl
  rw [<-f3,List.head?_map,List.getLast?_map,List.getLast?_reverse] at h1
  exact injO h1
 have g1:(chR S).head? = S.getLast?:=by rw [e1,e3]; rfl
 obtain ⟨m,S',rfl⟩:∃ m S',S=m :: S':=by
  cases S with
  | nil=>simp at ha
  | cons m S'=>exact ⟨m,S',rfl⟩
 obtain ⟨M,hM1,hM2⟩:∃ M,(m :: S').getLast? = some M/\M ∈ S':=by
  cases S' with
  | nil =>
   simp at ha hb hc
   subst ha hb hc
   exact absurd (trn_aa _ _) hne
  | cons x S'=>exact ⟨(x :: S').getLast (by simp),by rw [List.getLast?_cons_cons,List.getLast?_eq_some_getLast],List.getLast_mem _⟩
 exact two_cvx (m:=m) (M:=M) (by simp) (List.mem_cons_of_mem _ hM2) ((List.pairwise_cons.1 hs).1 M hM2) hR hR' (g1.trans hM1) e2 g3 (g2.trans hM1) hn
theorem len_le_of_lt:∀ (N:Nat) (l:List Nat),l.Nodup->(∀ x ∈ l,x < N)->l.length<=N
 | 0,l,_,h=>by
  cases l with
  | nil=>simp
  | cons a l=>exact absurd (h a (by simp)) (by omega)
 | N+1,l,hd,h=>by
  by_cases hm:N ∈ l
  ·have h1:=List.length_erase_of_mem hm
   have h2:=len_le_of_lt N (l.erase N) (hd.erase N) fun x hx=>by
    have h3:=h x (List.mem_of_mem_erase hx)
    have h4:x ≠ N:=fun e=>by subst e; exact hd.not_mem_erase hx
    omega
   omega
  ·have:=len_le_of_lt N l hd fun x hx=>by
    have h3:=h x hx
    have h4:x ≠ N:=fun e=>by subst e; exact hm hx
    omega
   omega
theorem pigeon {n N:Nat} {R:Nat->Nat->Prop} (h:∀ i,i < n->∃ c,c < N/\R i c) (inj:∀ i j c,i < n->j < n->R i c->R j c->i=j):n<=N:=by
 have hf:∃ f:Nat->Nat,∀ i,i < n->f i < N/\R i (f i):=by
  refine ⟨fun i=>if hi:i < n then Classical.choose (h i hi) else 0,fun i hi=>?_⟩
  simp only [hi,dif_pos]
  exact Classical.choose_spec (h i hi)
 obtain ⟨f,hf⟩:=hf
 have h1:=len_le_of_lt N ((List.range n).map f) (by
  rw [List.nodup_iff_pairwise_ne,List.pairwise_map]
  have hr:(List.range n).Pairwise (fun a b=>a < b):=List.pairwise_lt_range
  refine (List.pairwise_iff_getElem.2 fun i j hi hj hij=>?_)
  simp only [List.length_range] at hi hj
  simp only [List.getElem_range]
  intro e
  have:=inj i j (f i) hi hj (hf i hi).2 (by rw [e]; exact (hf j hj).2)
  omega) (by
  intro x hx
  obtain ⟨i,hi,rfl⟩:=List.mem_map.1 hx
  exact (hf i (List.mem_range.1 hi)).1)
 simpa using h1
theorem sq_nn (a:Int):0<=a * a:=by
 rcases Int.le_total 0 a with h|h
 ·exact Int.mul_nonneg h h
 ·exact Int.mul_nonneg_of_nonpos_of_nonpos h h
theorem nd_inj {l:List DV} (h:l.Nodup) {i j:Nat} (hi:i < l.length) (hj:j < l.length) (e:l[i]=l[j]):i=j:=by
 rw [List.nodup_iff_pairwise_ne] at h
 rcases Nat.lt_trichotomy i j with h1|h1|h1
 ·exact absurd e (List.pairwise_iff_getElem.1 h i j hi hj h1)
 ·exact h1
 ·exact absurd e.symm (List.pairwise_iff_getElem.1 h j i hj hi h1)
theorem sb_ne {a b:DV} (h:a ≠ b):sbV a b ≠ (0,0):=by
 intro e
 unfold sbV at e
 have q1:=congrArg Prod.fst e
 have q2:=congrArg Prod.snd e
 simp only at q1 q2
 exact h (Prod.ext (by omega) (by omega))
theorem dt_pos {d:DV} (h:d ≠ (0,0)):0 < dt d d:=by
 unfold dt
 have h1:=sq_nn d.1
 have h2:=sq_nn d.2
 by_cases e1:d.1=0
 ·by_cases e2:d.2=0
  ·exact absurd (Prod.ext e1 e2) h
  ·have:d.2 * d.2 ≠ 0:=fun h=>(Int.mul_eq_zero.1 h).elim e2 e2
   omega
 ·have:d.1 * d.1 ≠ 0:=fun h=>(Int.mul_eq_zero.1 h).elim e1 e1
  omega
theorem pos_of_mul {a b c:Int} (h:a * b=c) (hb:0 < b) (hc:0<=c):0<=a:=by
 by_cases ha:0<=a
 ·exact ha
 ·have:=Int.mul_neg_of_neg_of_pos (show a < 0 by omega) hb
  omega
theorem pos_of_mul' {a b c:Int} (h:a * b=c) (hb:0 < b) (hc:0 < c):0 < a:=by
 have:=pos_of_mul h hb (Int.le_of_lt hc)
 by_cases ha:a=0
 ·subst ha; omega
 ·omega
theorem same_dir {d E c:DV} (hd:d ≠ (0,0)) (h0:crs d E=0) (h1:0 < crs E c) (h2:0<=crs d c):0 < dt d E:=by
 have hE:E ≠ (0,0):=fun h=>by subst h; unfold crs at h1; simp at h1
 have k:dt d E * crs E c=crs d c * dt E E - crs d E * dt E c:=by unfold dt crs; grind
 rw [h0,Int.zero_mul,Int.sub_zero] at k
 have n1:=pos_of_mul k h1 (Int.mul_nonneg h2 (Int.le_of_lt (dt_pos hE)))
 have k2:dt d E * dt d E+crs d E * crs d E=dt d d * dt E E:=by unfold dt crs; grind
 rw [h0,Int.mul_zero,Int.add_zero] at k2
 have n2:=Int.mul_pos (dt_pos hd) (dt_pos hE)
 by_cases hz:dt d E=0
 ·rw [hz,Int.mul_zero] at k2; omega
 ·omega
theorem nxt_cases {n i:Nat} (hi:i < n):(nxt n i).toNat=(if i+1 < n then i+1 else 0):=by
 split
 ·exact nxt_lt (by assumption)
 ·exact nxt_end (by omega)
theorem prev_of {n i:Nat} (hi:i < n):∃ h,h < n/\(nxt n h).toNat=i:=by
 by_cases h0:i=0
 ·exact ⟨n - 1,by omega,by rw [nxt_end (by omega),h0]⟩
 ·exact ⟨i - 1,by omega,by rw [nxt_lt (by omega)]; omega⟩
theorem corn {l:List DV} (h:polyP l) {i k:Nat} (hi:i < l.length) (hk:k < l.length) (h1:k ≠ i) (h2:k ≠ (nxt l.length i).toNat):0 < trn (nth (t:=tVec) l i) (nth (t:=tVec) l (nxt l.length i).toNat) (nth (t:=tVec) l k) :=
 h.2.2 i k hi hk (by omega) (by have:=nxt_rng (n:=l.length) (i:=i) (by omega); omega)
theorem third (n i j:Nat) (hn:3<=n):∃ k,k < n/\k ≠ i/\k ≠ j:=by
 by_cases h0:i ≠ 0/\j ≠ 0
 ·exact ⟨0,by omega,by omega,by omega⟩
 ·by_cases h1:i ≠ 1/\j ≠ 1
  ·exact ⟨1,by omega,by omega,by omega⟩
  ·exact ⟨2,by omega,by omega,by omega⟩
def edgV (l:List DV) (t:Nat):DV:=sbV (nth (t:=tVec) l (nxt l.length t).toNat) (nth (t:=tVec) l t)
theorem supp_edge {l:List DV} (h:polyP l) {d:DV} (hd:d ≠ (0,0)) {i j:Nat} (hi:i < l.length) (hj:j < l.length) (hne:nth (t:=tVec) l i ≠ nth (t:=tVec) l j) (hall:∀ x ∈ l,0<=crs d (sbV x (nth (t:=tVec) l i)))
  (hz:crs d (sbV (nth (t:=tVec) l j) (nth (t:=tVec) l i))=0):∃ t,t < l.length/\crs d (edgV l t)=0/\0 < dt d (edgV l t):=by
 have h3:3<=l.length:=by have:=h.1.1; omega
 have hij:i ≠ j:=fun e=>hne (by rw [e])
 by_cases c1:j=(nxt l.length i).toNat
 ·obtain ⟨k,hk,hk1,hk2⟩:=third l.length i j h3
  have ht:=corn h hi hk hk1 (by rw [<-c1]; exact hk2)
  have he:edgV l i=sbV (nth (t:=tVec) l j) (nth (t:=tVec) l i):=by unfold edgV; rw [<-c1]
  refine ⟨i,hi,by rw [he]; exact hz,?_⟩
  rw [he]
  rw [trn_crs,<-c1] at ht
  exact same_dir hd hz ht (hall _ (nth_mem hk))
 ·by_cases c2:i=(nxt l.length j).toNat
  ·obtain ⟨k,hk,hk1,hk2⟩:=third l.length i j h3
   have ht:=corn h hj hk hk2 (by rw [<-c2]; exact hk1)
   have he:edgV l j=sbV (nth (t:=tVec) l i) (nth (t:=tVec) l j):=by unfold edgV; rw [<-c2]
   have hz':crs d (sbV (nth (t:=tVec) l i) (nth (t:=tVec) l j))=0:=by
    have:crs d (sbV (nth (t:=tVec) l i) (nth (t:=tVec) l j))=- crs d (sbV (nth (t:=tVec) l j) (nth (t:=tVec) l i)):=by unfold crs sbV; grind
    rw [this,hz]; rfl
   refine ⟨j,hj,by rw [he]; exact hz',?_⟩
   rw [he]
   rw [trn_crs,<-c2] at ht
   refine same_dir hd hz' ht ?_
   have h4:=hall _ (nth_mem hk)
   have:crs d (sbV (nth (t:=tVec) l k) (nth (t:=tVec) l j))=crs d (sbV (nth (t:=tVec) l k) (nth (t:=tVec) l i)) - crs d (sbV (nth (t:=tVec) l j) (nth (t:=tVec) l i)):=by unfold crs sbV; grind
   omega
  ·exfalso
   obtain ⟨g,hg,hgi⟩:=prev_of hi
   have hr:=nxt_rng (n:=l.length) (i:=i) (by omega)
   have hn:(nxt l.length i).toNat < l.length:=by omega
   have t1:=corn h hi hj (Ne.symm hij) c1
   have t2:=corn h hg hj (fun e=>c2 (by rw [e]; exact hgi.symm)) (by rw [hgi]; exact Ne.symm hij)
   rw [hgi] at t2
   have a1:=hall _ (nth_mem hn)
   have a2:=hall _ (nth_mem hg)
   generalize nth (t:=tVec) l i=p at *
   generalize nth (t:=tVec) l j=q at *
   generalize nth (t:=tVec) l (nxt l.length i).toNat=s at *
   generalize nth (t:=tVec) l g=u at *
   have k1:trn p s q * dt d d=- (crs d (sbV s p) * dt d (sbV q p))+dt (sbV s p) d * crs d (sbV q p):=by unfold trn dt crs sbV; grind
   have k2:trn u p q * dt d d=crs d (sbV u p) * dt d (sbV q p) - crs d (sbV q p) * dt d (sbV u p):=by unfold trn dt crs sbV; grind
   rw [hz,Int.mul_zero,Int.add_zero] at k1
   rw [hz,Int.zero_mul,Int.sub_zero] at k2
   have m1:=Int.mul_pos t1 (dt_pos hd)
   have m2:=Int.mul_pos t2 (dt_pos hd)
   have n1:dt d (sbV q p) < 0:=by
    by_cases hq:dt d (sbV q p) < 0
    ·exact hq
    ·have:=Int.mul_nonneg a1 (show 0<=dt d (sbV q p) by omega)
     omega
   have n2:0 < dt d (sbV q p):=by
    by_cases hq:0 < dt d (sbV q p)
    ·exact hq
    ·have:=Int.mul_nonneg a2 (show 0<=- dt d (sbV q p) by omega)
     rw [Int.mul_neg] at this
     omega
   omega
def smV (a b:List DV):List DV:=a.flatMap fun p=>b.map (addV p)
theorem smV_mem {a b:List DV} {x:DV}:x ∈ smV a b ↔ ∃ p ∈ a,∃ q ∈ b,addV p q=x:=by
 unfold smV
 simp only [List.mem_flatMap,List.mem_map]
theorem dir_inj {P:DV->Prop} {H:List DV} (hH:Cvx P H) {i j:Nat} (hi:i < H.length) (hj:j < H.length) {E:DV} (h1:crs (edgV H i) E=0) (h2:0 < dt (edgV H i) E) (h3:crs (edgV H j) E=0) (h4:0 < dt (edgV H j) E):i=j:=by
 have hE:0 < dt E E:=dt_pos fun h=>by subst h; unfold dt at h2; simp at h2
 have k1:crs (edgV H i) (edgV H j) * dt E E=crs (edgV H i) E * dt E (edgV H j) - crs (edgV H j) E * dt E (edgV H i):=by unfold dt crs; grind
 rw [h1,h3,Int.zero_mul,Int.zero_mul,Int.sub_zero] at k1
 have z:crs (edgV H i) (edgV H j)=0:=by
  rcases Int.mul_eq_zero.1 k1 with h|h
  ·exact h
  ·omega
 have k2:dt (edgV H i) (edgV H j) * dt E E=dt (edgV H i) E * dt (edgV H j) E+crs (edgV H i) E * crs (edgV H j) E:=by unfold dt crs; grind
 rw [h1,Int.zero_mul,Int.add_zero] at k2
 have p:=pos_of_mul' k2 hE (Int.mul_pos h2 h4)
 by_cases hij:i=j
 ·exact hij
 ·exfalso
  have ri:=nxt_rng (n:=H.length) (i:=i) (by omega)
  have rj:=nxt_rng (n:=H.length) (i:=j) (by omega)
  have mi:nth (t:=tVec) H i ∈ H:=nth_mem hi
  have mj:nth (t:=tVec) H j ∈ H:=nth_mem hj
  have ndI:nth (t:=tVec) H i ≠ nth (t:=tVec) H j:=by
   rw [nth_lt hi,nth_lt hj]
   intro e
   exact hij (nd_inj hH.nodup _ _ e)
  have l1:=hH.low i hi _ (hH.sub _ mj)
  have l2:=hH.low j hj _ (hH.sub _ mi)
  have s1:=hH.str i hi _ mj
  have s2:=hH.str j hj _ mi
  unfold edgV at z p h1 h2 h3 h4
  have dd1:0 < dt (sbV (nth (t:=tVec) H (nxt H.length i).toNat) (nth (t:=tVec) H i)) (sbV (nth (t:=tVec) H (nxt H.length i).toNat) (nth (t:=tVec) H i)):=dt_pos fun h=>by rw [h] at h2; unfold dt at h2; simp at h2
  generalize nth (t:=tVec) H i=a at *
  generalize nth (t:=tVec) H j=b at *
  generalize nth (t:=tVec) H (nxt H.length i).toNat=a' at *
  generalize nth (t:=tVec) H (nxt H.length j).toNat=b' at *
  rw [trn_crs] at l1 l2
  have k3:crs (sbV b' b) (sbV a b) * dt (sbV a' a) (sbV a' a)=- (crs (sbV a' a) (sbV b a) * dt (sbV a' a) (sbV b' b)) - crs (sbV a' a) (sbV b' b) * dt (sbV a' a) (sbV a b):=by unfold dt crs sbV; grind
  rw [z,Int.zero_mul,Int.sub_zero] at k3
  have q1:=Int.mul_nonneg l2 (Int.le_of_lt dd1)
  have q2:=Int.mul_nonneg l1 (Int.le_of_lt p)
  have q3:crs (sbV a' a) (sbV b a) * dt (sbV a' a) (sbV b' b)=0:=by omega
  have q4:crs (sbV a' a) (sbV b a)=0:=by
   rcases Int.mul_eq_zero.1 q3 with h|h
   ·exact h
   ·omega
  have q5:crs (sbV b' b) (sbV a b)=0:=by
   have:crs (sbV b' b) (sbV a b) * dt (sbV a' a) (sbV a' a)=0:=by rw [k3,q3]; rfl
   rcases Int.mul_eq_zero.1 this with h|h
   ·exact h
   ·omega
  rw [trn_crs] at s1 s2
  rcases s1 with h|h|h
  ·exact ndI h.symm
  ·rcases s2 with h'|h'|h'
   ·exact ndI h'
   ·subst h h'
    have:dt (sbV b a) (sbV a b)=- dt (sbV b a) (sbV b a):=by unfold dt sbV; grind
    omega
   ·omega
  ·omega
theorem mink_le {a b H:List DV} (ha:polyP a) (hb:polyP b) (hH:Cvx (fun p=>p ∈ smV a b) H):H.length<=a.length+b.length:=by
 refine pigeon (R:=fun i c=>(c < a.length/\crs (edgV H i) (edgV a c)=0/\0 < dt (edgV H i) (edgV a c))\/(a.length<=c/\crs (edgV H i) (edgV b (c - a.length))=0/\0 < dt (edgV H i) (edgV b (c - a.length)))) ?_ ?_
 ·intro i hi
  have ri:=nxt_rng (n:=H.length) (i:=i) (by omega)
  have hn:(nxt H.length i).toNat < H.length:=by omega
  have h3:=hH.three
  have hlow:=hH.low i hi
  have nd:nth (t:=tVec) H (nxt H.length i).toNat ≠ nth (t:=tVec) H i:=by
   rw [nth_lt hn,nth_lt hi]
   intro e
   have e2:=nd_inj hH.nodup _ _ e
   have:=nxt_cases hi
   split at this<;>omega
  obtain ⟨p,hp,q,hq,e1⟩:=smV_mem.1 (hH.sub _ (nth_mem hi))
  obtain ⟨p',hp',q',hq',e2⟩:=smV_mem.1 (hH.sub _ (nth_mem hn))
  have hdd:edgV H i=sbV (nth (t:=tVec) H (nxt H.length i).toNat) (nth (t:=tVec) H i):=rfl
  have hd0:edgV H i ≠ (0,0):=by
   exact sb_ne nd
  have A:∀ x ∈ a,0<=crs (edgV H i) (sbV x p):=fun x hx=>by
   have h:=hlow (addV x q) (smV_mem.2 ⟨x,hx,q,hq,rfl⟩)
   rw [trn_crs,<-hdd,<-e1] at h
   have:sbV (addV x q) (addV p q)=sbV x p:=by unfold sbV addV; exact Prod.ext (by simp only; omega) (by simp only; omega)
   rw [this] at h; exact h
  have B:∀ y ∈ b,0<=crs (edgV H i) (sbV y q):=fun y hy=>by
   have h:=hlow (addV p y) (smV_mem.2 ⟨p,hp,y,hy,rfl⟩)
   rw [trn_crs,<-hdd,<-e1] at h
   have:sbV (addV p y) (addV p q)=sbV y q:=by unfold sbV addV; exact Prod.ext (by simp only; omega) (by simp only; omega)
   rw [this] at h; exact h
  have hz:crs (edgV H i) (sbV p' p)+crs (edgV H i) (sbV q' q)=0:=by
   have:edgV H i=(p'.1 - p.1+(q'.1 - q.1),p'.2 - p.2+(q'.2 - q.2)):=by
    rw [hdd,<-e1,<-e2]; unfold sbV addV; exact Prod.ext (by simp only; omega) (by simp only; omega)
   rw [this]; unfold crs sbV; grind
  have hA:=A p' hp'
  have hB:=B q' hq'
  have zA:crs (edgV H i) (sbV p' p)=0:=by omega
  have zB:crs (edgV H i) (sbV q' q)=0:=by omega
  obtain ⟨i1,hi1,f1⟩:=List.getElem_of_mem hp
  obtain ⟨i2,hi2,f2⟩:=List.getElem_of_mem hp'
  obtain ⟨j1,hj1,g1⟩:=List.getElem_of_mem hq
  obtain ⟨j2,hj2,g2⟩:=List.getElem_of_mem hq'
  rw [<-nth_lt (t:=tVec) hi1] at f1
  rw [<-nth_lt (t:=tVec) hi2] at f2
  rw [<-nth_lt (t:=tVec) hj1] at g1
  rw [<-nth_lt (t:=tVec) hj2] at g2
  by_cases hpp:p=p'
  ·have hqq:q ≠ q':=fun h=>nd (by rw [<-e1,<-e2,hpp,h])
   obtain ⟨t,ht,h1,h2⟩:=supp_edge hb hd0 hj1 hj2 (by rw [g1,g2]; exact hqq) (by rw [g1]; exact B) (by rw [g1,g2]; exact zB)
   exact ⟨a.length+t,by omega,.inr ⟨by omega,by rw [show a.length+t - a.length=t by omega]; exact ⟨h1,h2⟩⟩⟩
  ·obtain ⟨t,ht,h1,h2⟩:=supp_edge ha hd0 hi1 hi2 (by rw [f1,f2]; exact hpp) (by rw [f1]; exact A) (by rw [f1,f2]; exact zA)
   exact ⟨t,by omega,.inl ⟨ht,h1,h2⟩⟩
 ·rintro i j c hi hj (⟨_,h1,h2⟩|⟨hc,h1,h2⟩) (⟨_,h3,h4⟩|⟨hc',h3,h4⟩)
  ·exact dir_inj hH hi hj h1 h2 h3 h4
  ·omega
  ·omega
  ·exact dir_inj hH hi hj h1 h2 h3 h4
theorem hullD_of {l:List DV} (hn:∃ a ∈ l,∃ b ∈ l,∃ c ∈ l,trn a b c ≠ 0):Cvx (fun p=>p ∈ l) (hullD l):=by
 have hn':∃ a ∈ srtD l,∃ b ∈ srtD l,∃ c ∈ srtD l,trn a b c ≠ 0:=by
  obtain ⟨a,ha,b,hb,c,hc,h⟩:=hn
  exact ⟨a,srtD_mem.2 ha,b,srtD_mem.2 hb,c,srtD_mem.2 hc,h⟩
 have hC:=hull_cvx (srtD_srt l) hn'
 have h2:¬ (srtD l).length < 2:=by
  obtain ⟨a,ha,b,hb,c,hc,h⟩:=hn'
  intro hlt
  match hs:srtD l,ha,hb,hc with
  | [x],ha,hb,hc =>
   simp at ha hb hc
   subst ha hb hc
   exact h (trn_aa _ _)
  | _ :: _ :: _,_,_,_=>rw [hs] at hlt; simp at hlt; omega
 unfold hullD
 rw [if_neg h2]
 exact ⟨hC.three,hC.nodup,hC.str,fun i hi p hp=>hC.low i hi p (srtD_mem.2 hp),fun x hx=>srtD_mem.1 (hC.sub x hx)⟩
theorem trn_addV (c:DV) (x y z:DV):trn (addV x c) (addV y c) (addV z c)=trn x y z:=by unfold trn addV; grind
theorem sum_poly {a b:List DV} (ha:polyP a) (hb:polyP b) (hl:a.length+b.length<=16) (hs:∀ x ∈ smV a b,okV x=true):polyP (hullD (smV a b)):=by
 have la:3<=a.length:=by have:=ha.1.1; omega
 have lb:3<=b.length:=by have:=hb.1.1; omega
 have hC:=hullD_of (l:=smV a b) (by
  have m0:nth (t:=tVec) b 0 ∈ b:=nth_mem (by omega)
  have r0:(nxt a.length 0).toNat=1:=nxt_lt (by omega)
  refine ⟨_,smV_mem.2 ⟨_,nth_mem (l:=a) (i:=0) (by omega),_,m0,rfl⟩,_,smV_mem.2 ⟨_,nth_mem (l:=a) (i:=1) (by omega),_,m0,rfl⟩,_,smV_mem.2 ⟨_,nth_mem (l:=a) (i:=2) (by omega),_,m0,rfl⟩,?_⟩
  rw [trn_addV]
  have:=corn ha (i:=0) (k:=2) (by omega) (by omega) (by omega) (by omega)
  rw [r0] at this
  omega)
 have hle:=mink_le ha hb hC
 have h3:=hC.three
 refine ⟨⟨by omega,by omega⟩,fun v hv=>hs v (hC.sub v hv),fun i k hi hk n1 n2=>?_⟩
 have ri:=nxt_rng (n:=(hullD (smV a b)).length) (i:=i) (by omega)
 have hn:(nxt (hullD (smV a b)).length i).toNat < (hullD (smV a b)).length:=by omega
 have nd:∀ {j:Nat} (hj:j < (hullD (smV a b)).length),k ≠ j->nth (t:=tVec) (hullD (smV a b)) k ≠ nth (t:=tVec) (hullD (smV a b)) j:=by
  intro j hj hkj
  rw [nth_lt hk,nth_lt hj]
  intro e
  exact hkj (nd_inj hC.nodup _ _ e)
 rcases hC.str i hi _ (nth_mem hk) with h|h|h
 ·exact absurd h (nd hi (by omega))
 ·exact absurd h (nd hn (by omega))
 ·exact h
theorem nth_memT {t:Ty} {l:List t.den} {i:Nat} (h:i < l.length):nth l i ∈ l:=by rw [nth_lt h]; exact List.getElem_mem h
theorem indexFunc_vecC_fn (F:FuncId) (A:Ty) (x:A.den) (p:DV->Bool) (l:List DV) (hF:∀ y ∈ l,Fn Tryz.prog F (⟨tVec,y⟩ :: capD A x) false [⟨.bool,p y⟩]):Fn Tryz.prog 151 [⟨.slice tVec,l⟩,⟨.ext (.clo F) A,some x⟩] false [⟨.int,ixf (t:=tVec) p l⟩]:=by
 refine fe Tryz.func151 Tryz.ntmps151 Tryz.results151 fun hwf=>?_
 have hl:l.length<=9223372036854775807:=(hwf ⟨.slice tVec,l⟩ (by simp)).1
 try simp (maxSteps:=9^9) only[go_sem]
 refine LoopG.intro _ _ _ (fun i:Nat=>⟨[(0,.sl tVec l),(1,.ex (.clo F) A (some x)),(7,.sc (.int .i64 l.length)),(8,.sc (.int .i64 i))],[]⟩) (fun i=>∀ j < i,j < l.length->p (nth (t:=tVec) l j)=false) (fun i=>l.length - i) 0 ?_ (fun j h=>by simp at h) ?_
 ·exact WK
 ·rintro i h2
  try simp (maxSteps:=9^9) only[go_sem]
  refine CondW_dec (fun h3=>?_) (fun h3=>?_)
  ·have c1:=hF (nth (t:=tVec) l i) (nth_memT (t:=tVec) (by omega))
   try simp (maxSteps:=9^9) only[go_sem]
   repeat refine AI ?_
   repeat refine AI ?_
   refine CallD.mk (c1) ?_
   try simp (maxSteps:=9^9) only[go_sem]
   refine CondW_b (fun h4=>?_) (fun h4=>?_)
   ·try simp (maxSteps:=9^9) only[go_sem]
    exact (ixf_at (by omega) h4 (fun j hj=>h2 j hj (by omega))).symm
   ·try simp (maxSteps:=9^9) only[go_sem]
    repeat refine AI ?_
    refine LoopK.mk (i+1) ?_ (fun j hj hl=>?_) (by omega)
    ·exact WK
    ·by_cases hj2:j < i
     ·exact h2 j hj2 hl
     ·rw [show j=i by omega]; exact h4
  ·try simp (maxSteps:=9^9) only[go_sem]
   exact (ixf_none fun j hj=>h2 j (by omega) hj).symm
theorem containsFunc_vecC_fn (F:FuncId) (A:Ty) (x:A.den) (p:DV->Bool) (l:List DV) (hF:∀ y ∈ l,Fn Tryz.prog F (⟨tVec,y⟩ :: capD A x) false [⟨.bool,p y⟩]):Fn Tryz.prog 109 [⟨.slice tVec,l⟩,⟨.ext (.clo F) A,some x⟩] false [⟨.bool,l.any p⟩]:=by
 have c1:=indexFunc_vecC_fn F A x p l hF
 refine fe Tryz.func109 Tryz.ntmps109 Tryz.results109 fun hwf=>?_
 try simp (maxSteps:=9^9) only[go_sem]
 repeat refine AI ?_
 refine cw c1 ?_
 try simp (maxSteps:=9^9) only[go_sem]
 exact ixf_any
theorem areInC_fn (k:Int) (hk:0<=k/\k<=1000000) (v:DV):Fn Tryz.prog 110 [⟨tVec,v⟩,⟨.ext .ref .int,some k⟩] false [⟨.bool,!inB k v⟩]:=by
 have c1:=within_fn v.1 (-k) k
 have c2:=within_fn v.2 (-k) k
 unfold inB
 cases h:decide (-k<=v.1/\v.1<=k)<;>rw [h] at c1
 ·refine fe Tryz.func110 Tryz.ntmps110 Tryz.results110 fun hwf=>?_
  try simp (maxSteps:=9^9) only[go_sem]
  repeat refine AI ?_
  repeat refine AI ?_
  refine cw c1 ?_
  try simp (maxSteps:=9^9) only[go_sem]
  all_goals repeat refine AI ?_
  all_goals first|kernel_rfl|omega|rfl
 ·refine fe Tryz.func110 Tryz.ntmps110 Tryz.results110 fun hwf=>?_
  try simp (maxSteps:=9^9) only[go_sem]
  repeat refine AI ?_
  repeat refine AI ?_
  refine cw c1 ?_
  try simp (maxSteps:=9^9) only[go_sem]
  repeat refine AI ?_
  repeat refine AI ?_
  refine cw c2 ?_
  try simp (maxSteps:=9^9) only[go_sem]
  all_goals repeat refine AI ?_
  all_goals first|kernel_rfl|omega|rfl
theorem areIn_fn (k:Int) (hk:0<=k/\k<=1000000) (l:List DV):Fn Tryz.prog 74 [⟨.int,k⟩,⟨.slice tVec,l⟩] false [⟨.bool,!(l.any fun v=>!inB k v)⟩]:=by
 have c1:=containsFunc_vecC_fn 110 (.ext .ref .int) (some k) (fun v=>!inB k v) l (fun y _=>areInC_fn k hk y)
 refine fe Tryz.func74 Tryz.ntmps74 Tryz.results74 fun hwf=>?_
 try simp (maxSteps:=9^9) only[go_sem]
 repeat refine AI ?_
 repeat refine AI ?_
 refine CallK.mk (c1) ?_
 try simp (maxSteps:=9^9) only[go_sem]
 all_goals repeat refine AI ?_
 all_goals first|kernel_rfl|omega|rfl
def allIn (k:Int) (l:List DV):Bool:=!(l.any fun v=>!inB k v)
theorem allIn_t {k:Int} {l:List DV} (h:∀ i,i < l.length->inB k (nth (t:=tVec) l i)=true):allIn k l=true:=by
 unfold allIn
 rw [Bool.not_eq_true',List.any_eq_false]
 intro v hv
 obtain ⟨i,hi,rfl⟩:=List.getElem_of_mem hv
 have:=h i hi
 rw [nth_lt hi] at this
 rw [this]; decide
noncomputable def smB (l:List DV) (k:Int):Bool:=decide ((l.length:Int)<=5) && (polyB l && allIn k l)
theorem isSmall_fn (l:List DV) (k:Int) (hk:0<=k/\k<=1000000):Fn Tryz.prog 45 [⟨.slice tVec,l⟩,⟨.int,k⟩] false [⟨.bool,smB l k⟩]:=by
 have c1:=implIsPolygon_fn l
 unfold smB
 cases h1:decide ((l.length:Int)<=5)
 ·refine fe Tryz.func45 Tryz.ntmps45 Tryz.results45 fun hwf=>?_
  try simp (maxSteps:=9^9) only[go_sem,h1]
 ·cases h2:polyB l<;>rw [h2] at c1
  ·refine fe Tryz.func45 Tryz.ntmps45 Tryz.results45 fun hwf=>?_
   try simp (maxSteps:=9^9) only[go_sem,h1]
   repeat refine AI ?_
   refine cw c1 ?_
   try simp (maxSteps:=9^9) only[go_sem]
  ·have c2:Fn Tryz.prog 74 [⟨.int,k⟩,⟨.slice tVec,l⟩] false [⟨.bool,allIn k l⟩]:=areIn_fn k hk l
   refine fe Tryz.func45 Tryz.ntmps45 Tryz.results45 fun hwf=>?_
   try simp (maxSteps:=9^9) only[go_sem,h1]
   repeat refine AI ?_
   refine cw c1 ?_
   try simp (maxSteps:=9^9) only[go_sem]
   repeat refine AI ?_
   refine cw c2 ?_
   try simp (maxSteps:=9^9) only[go_sem]
theorem polyB_p {l:List DV} (h:polyB l=true):polyP l:=@of_decide_eq_true _ (Classical.propDecidable _) h
theorem poly_map {l:List DV} {f:DV->DV} (h:polyP l) (hok:∀ v ∈ l,okV (f v)=true) (ht:∀ a b c,trn (f a) (f b) (f c)=trn a b c):polyP (l.map f):=by
 have hn:∀ {k},k < l.length->nth (t:=tVec) (l.map f) k=f (nth (t:=tVec) l k):=fun {k} hk=>by
  rw [nth_lt (t:=tVec) hk,nth_lt (t:=tVec) (l:=l.map f) (by rw [List.length_map]; exact hk),List.getElem_map]
 refine ⟨by rw [List.length_map]; exact h.1,fun v hv=>?_,fun i k hi hk=>?_⟩
 ·obtain ⟨u,hu,rfl⟩:=List.mem_map.1 hv
  exact hok u hu
 ·rw [List.length_map] at hi hk
  have ri:=nxt_rng (n:=l.length) (i:=i) (by omega)
  have:=h.2.2 i k hi hk
  unfold cornOK at this ⊢
  rw [List.length_map,hn hi,hn hk,hn (by omega),ht]
  exact this
theorem trn_rot1 (a b c:DV):trn (rot1 a) (rot1 b) (rot1 c)=trn a b c:=by unfold trn rot1; grind
theorem trn_rot (a b c:DV):∀ n,trn (rotN n a) (rotN n b) (rotN n c)=trn a b c
 | 0=>rfl
 | n+1=>by
  show trn (rot1 (rotN n a)) (rot1 (rotN n b)) (rot1 (rotN n c))=_
  rw [trn_rot1,trn_rot a b c n]
theorem okV_neg {v:DV} (h:okV v=true):okV (negV v)=true:=by
 obtain ⟨h1,h2,h3,h4⟩:=okV_b h
 unfold negV
 exact okV_of (by simp only; omega) (by simp only; omega) (by simp only; omega) (by simp only; omega)
theorem poly_neg {l:List DV} (h:polyP l):polyP (l.map negV):=poly_map h (fun v hv=>okV_neg (h.2.1 v hv)) trn_ng
theorem poly_rot {l:List DV} (h:polyP l) (n:Nat):polyP (l.map (rotN n)):=poly_map h (fun v hv=>okV_rot (h.2.1 v hv) n) fun a b c=>trn_rot a b c n
theorem inB_b {k:Int} {v:DV} (h:inB k v=true):-k<=v.1/\v.1<=k/\-k<=v.2/\v.2<=k:=by
 unfold inB at h
 rw [Bool.and_eq_true] at h
 exact ⟨(of_decide_eq_true h.1).1,(of_decide_eq_true h.1).2,(of_decide_eq_true h.2).1,(of_decide_eq_true h.2).2⟩
theorem inB_of {k:Int} {v:DV} (h1:-k<=v.1) (h2:v.1<=k) (h3:-k<=v.2) (h4:v.2<=k):inB k v=true:=by
 unfold inB
 rw [Bool.and_eq_true,decide_eq_true_iff,decide_eq_true_iff]
 exact ⟨⟨h1,h2⟩,h3,h4⟩
theorem inB_rot {k:Int} {v:DV} (h:inB k v=true):∀ n,inB k (rotN n v)=true
 | 0=>h
 | n+1=>by
  obtain ⟨b1,b2,b3,b4⟩:=inB_b (inB_rot h n)
  show inB k (rot1 (rotN n v))=true
  unfold rot1
  exact inB_of (by simp only; omega) (by simp only; omega) (by simp only; omega) (by simp only; omega)
structure SmP (k:Int) (l:List DV):Prop where
 five:l.length<=5
 poly:polyP l
 ins:∀ v ∈ l,inB k v=true
theorem smB_p {l:List DV} {k:Int} (h:smB l k=true):SmP k l:=by
 unfold smB at h
 rw [Bool.and_eq_true,Bool.and_eq_true] at h
 obtain ⟨h1,h2,h3⟩:=h
 refine ⟨by have:=of_decide_eq_true h1; omega,polyB_p h2,fun v hv=>?_⟩
 unfold allIn at h3
 rw [Bool.not_eq_true',List.any_eq_false] at h3
 have:=h3 v hv
 simpa using this
theorem SmP.rot {k:Int} {l:List DV} (h:SmP k l) (n:Nat):SmP k (l.map (rotN n)) :=
 ⟨by rw [List.length_map]; exact h.five,poly_rot h.poly n,fun v hv=>by obtain ⟨u,hu,rfl⟩:=List.mem_map.1 hv; exact inB_rot (h.ins u hu) n⟩
theorem SmP.neg {k:Int} {l:List DV} (h:SmP k l):SmP k (l.map negV) :=
 ⟨by rw [List.length_map]; exact h.five,poly_neg h.poly,fun v hv=>by
  obtain ⟨u,hu,rfl⟩:=List.mem_map.1 hv
  obtain ⟨b1,b2,b3,b4⟩:=inB_b (h.ins u hu)
  unfold negV
  exact inB_of (by simp only; omega) (by simp only; omega) (by simp only; omega) (by simp only; omega)⟩
theorem SmP.ok {k:Int} {l:List DV} (h:SmP k l):∀ v ∈ l,okV v=true:=h.poly.2.1
theorem SmP.sum_ok {k m:Int} {a b:List DV} (ha:SmP k a) (hb:SmP m b) (hkm:k+m<=1000):∀ x ∈ smV a b,okV x=true:=by
 intro x hx
 obtain ⟨p,hp,q,hq,rfl⟩:=smV_mem.1 hx
 obtain ⟨b1,b2,b3,b4⟩:=inB_b (ha.ins p hp)
 obtain ⟨c1,c2,c3,c4⟩:=inB_b (hb.ins q hq)
 unfold addV
 exact okV_of (by simp only; omega) (by simp only; omega) (by simp only; omega) (by simp only; omega)
theorem SmP.sum {k m:Int} {a b:List DV} (ha:SmP k a) (hb:SmP m b) (hkm:k+m<=1000):polyP (hullD (smV a b)) :=
 sum_poly ha.poly hb.poly (by have:=ha.five; have:=hb.five; omega) (ha.sum_ok hb hkm)
def smI (a b:List DV) (i:Nat):List DV:=smV (a.take i) b
theorem smI_step {a b:List DV} {i:Nat} (h:i < a.length):smI a b (i+1)=smI a b i++b.map (addV (nth (t:=tVec) a i)):=by
 unfold smI smV
 rw [List.take_succ_eq_append_getElem h,nth_lt h,List.flatMap_append]
 simp
theorem smV_len (a b:List DV):(smV a b).length=a.length * b.length:=by
 unfold smV
 induction a with
 | nil=>simp
 | cons x a ih=>rw [List.flatMap_cons,List.length_append,ih,List.length_map,List.length_cons,Nat.succ_mul]; omega
theorem smI_len {a b:List DV} {i:Nat} (h:i<=a.length):(smI a b i).length=i * b.length:=by
 unfold smI; rw [smV_len,List.length_take,Nat.min_eq_left h]
theorem smI_all {a b:List DV} {i:Nat} (h:a.length<=i):smI a b i=smV a b:=by unfold smI; rw [List.take_of_length_le h]
theorem five_mul {i n:Nat} (h1:i<=5) (h2:n<=5):i * n<=25:=Nat.mul_le_mul h1 h2
theorem SumPolygonsI_fn {k m:Int} (a b:List DV) (ha:SmP k a) (hb:SmP m b) (hkm:k+m<=1000):Fn Tryz.prog 101 [⟨.slice tVec,a⟩,⟨.slice tVec,b⟩] true [⟨.slice tVec,hullD (smV a b)⟩]:=by
 have c1:=implIsPolygon_fn a
 have c2:=implIsPolygon_fn b
 rw [polyB_t ha.poly] at c1
 rw [polyB_t hb.poly] at c2
 have hab:=five_mul ha.five hb.five
 have l1:=ha.five
 have l2:=hb.five
 have hab':(a.length:Int) * (b.length:Int)<=25:=by exact_mod_cast hab
 have hab0:(0:Int)<=(a.length:Int) * (b.length:Int):=Int.mul_nonneg (by omega) (by omega)
 have d0:=decide_eq_false (p:=(a.length:Int) * (b.length:Int) > 64) (by omega)
 refine fe Tryz.func101 Tryz.ntmps101 Tryz.results101 fun hwf=>?_
 try simp (maxSteps:=9^9) only[go_sem]
 repeat refine AI ?_
 refine cw c1 ?_
 try simp (maxSteps:=9^9) only[go_sem]
 repeat refine AI ?_
 refine cw c2 ?_
 try simp (maxSteps:=9^9) only[go_sem]
 repeat refine AI ?_
 try simp (maxSteps:=9^9) only[go_sem,d0]
 refine LoopG.intro _ _ _ (fun i:Nat=>⟨[(1,.sl tVec b),(5,.row 0 0),(26,.sl tVec a),(27,.sc (.int .i64 a.length)),(28,.sc (.int .i64 i))],[(0,.row 61 tVec 0 true (smI a b i))]⟩) (fun i=>i<=a.length) (fun i=>a.length - i) 0 ?_ (Nat.zero_le _) ?_
 ·exact WK
 ·rintro i hi
  try simp (maxSteps:=9^9) only[go_sem]
  refine CondW_dec (fun hA=>?_) (fun hA=>?_)
  ·have hlt:i < a.length:=by omega
   have hml:=smI_len (a:=a) (b:=b) (i:=i) (by omega)
   have h25:=five_mul (i:=i) (n:=b.length) (by omega) l2
   have e:=smI_step (b:=b) hlt
   have c3:=moved_fn b (nth (t:=tVec) a i) (ha.ok _ (nth_mem hlt)) hb.ok (by omega)
   have hmm:(b.map (addV (nth (t:=tVec) a i))).length=b.length:=List.length_map ..
   try simp (maxSteps:=9^9) only[go_sem]
   repeat refine AI ?_
   repeat refine AI ?_
   refine cw c3 ?_
   try simp (maxSteps:=9^9) only[go_sem]
   try simp (maxSteps:=9^9) only[go_sem,hml,hmm]
   repeat refine AI ?_
   refine LoopK.mk (i+1) ?_ (by omega) (by omega)
   rw [e]
   exact WK
  ·rw [smI_all (by omega)]
   have hp:=ha.sum hb hkm
   have hsl:=smV_len a b
   have pos:0 < (smV a b).length:=by
    rw [hsl]
    have:=ha.poly.1.1
    have:=hb.poly.1.1
    exact Nat.mul_pos (by omega) (by omega)
   have c4:=HullOf_fn (smV a b) (ha.sum_ok hb hkm) pos (by omega)
   have c5:=implIsPolygon_fn (hullD (smV a b))
   rw [polyB_t hp] at c5
   try simp (maxSteps:=9^9) only[go_sem]
   repeat refine AI ?_
   refine cw c4 ?_
   try simp (maxSteps:=9^9) only[go_sem]
   repeat refine AI ?_
   refine cw c5 ?_
   try simp (maxSteps:=9^9) only[go_sem]
def obsD (r o:List DV):List DV:=hullD (smV o (r.map negV))
theorem ObstacleForI_fn {k m:Int} (r o:List DV) (hr:SmP k r) (ho:SmP m o) (hkm:m+k<=1000):Fn Tryz.prog 69 [⟨.slice tVec,r⟩,⟨.slice tVec,o⟩] true [⟨.slice tVec,obsD r o⟩]:=by
 have c1:=NegatePolygonI_fn r hr.ok (by have:=hr.five; omega)
 have c2:=SumPolygonsI_fn o (r.map negV) ho hr.neg hkm
 unfold obsD
 refine fe Tryz.func69 Tryz.ntmps69 Tryz.results69 fun hwf=>?_
 try simp (maxSteps:=9^9) only[go_sem]
 repeat refine AI ?_
 refine cw c1 ?_
 try simp (maxSteps:=9^9) only[go_sem]
 repeat refine AI ?_
 refine cw c2 ?_
 try simp (maxSteps:=9^9) only[go_sem]
theorem obs_poly {k m:Int} {r o:List DV} (hr:SmP k r) (ho:SmP m o) (hkm:m+k<=1000):polyP (obsD r o):=ho.sum hr.neg hkm
noncomputable def cpD (l:List DV) (p:DP):Int:=if okPt p then cntI l p l.length else -1
theorem ContainsI_fn (l:List DV) (p:DP) (hl:polyP l):Fn Tryz.prog 71 [⟨.slice tVec,l⟩,⟨tPoint,p⟩] false [⟨.int,cpD l p⟩]:=by
 have c1:=implIsPolygon_fn l
 rw [polyB_t hl] at c1
 have c2:=arePoints1_fn p
 have hn:=hl.1.2
 unfold cpD
 cases h:okPt p<;>rw [h] at c2
 ·rw [if_neg (by decide)]
  refine fe Tryz.func71 Tryz.ntmps71 Tryz.results71 fun hwf=>?_
  try simp (maxSteps:=9^9) only[go_sem]
  repeat refine AI ?_
  refine cw c1 ?_
  try simp (maxSteps:=9^9) only[go_sem]
  repeat refine AI ?_
  refine cw c2 ?_
  try simp (maxSteps:=9^9) only[go_sem]
  all_goals repeat refine AI ?_
  all_goals first|kernel_rfl|omega|rfl
 ·rw [if_pos rfl]
  have c3:=contains_fn l p hl.2.1 (by omega) h
  refine fe Tryz.func71 Tryz.ntmps71 Tryz.results71 fun hwf=>?_
  try simp (maxSteps:=9^9) only[go_sem]
  repeat refine AI ?_
  refine cw c1 ?_
  try simp (maxSteps:=9^9) only[go_sem]
  repeat refine AI ?_
  refine cw c2 ?_
  try simp (maxSteps:=9^9) only[go_sem]
  repeat refine AI ?_
  refine cw c3 ?_
  try simp (maxSteps:=9^9) only[go_sem]
  all_goals repeat refine AI ?_
  all_goals first|kernel_rfl|omega|rfl
variable {code:List Int}
theorem l01Pick_fn (hc:code.length<=1048576) (c:Cu code) (l:List Int) (h:1<=l.length/\l.length<=256):Dr 62 c c.next [⟨tInts,l⟩] false ⟨.int,ni l (c.below l.length).toNat⟩:=by
 have hb:=c.below_rng (n:=(l.length:Int)) (by omega)
 refine fnC_enter tabOK mixes Tryz.func62 rfl rfl _ Tryz.ntmps62 _ Tryz.results62 (by simp) (cz_ok hc _) (cz_one _) fun b u0 hwl hzs hwf=>?_
 try simp (maxSteps:=9^9) only[go_sem]
 repeat refine AI ?_
 refine CallW.c false (l01Below_fn hc c l.length (by omega)) ?_
 try simp (maxSteps:=9^9) only[go_sem]
 all_goals repeat refine AI ?_
 all_goals first|kernel_rfl|omega|rfl
def pvC (c:Cu code):Nat->Cu code
 | 0=>c
 | k+1=>(pvC c k).next.next
def pvL (c:Cu code) (m:Int):Nat->List DV
 | 0=>[]
 | k+1=>pvL c m k++[((pvC c k).below (2 * m+1) - m,(pvC c k).next.below (2 * m+1) - m)]
theorem pvL_len (c:Cu code) (m:Int):∀ k,(pvL c m k).length=k
 | 0=>rfl
 | k+1=>by rw [pvL,List.length_append,pvL_len c m k]; rfl
theorem pvL_in (c:Cu code) {m:Int} (hm:0<=m):∀ k,∀ v ∈ pvL c m k,inB m v=true
 | 0=>fun v hv=>by cases hv
 | k+1=>fun v hv=>by
  rw [pvL,List.mem_append,List.mem_singleton] at hv
  rcases hv with hv|rfl
  ·exact pvL_in c hm k v hv
  ·have h1:=(pvC c k).below_rng (n:=2 * m+1) (by omega)
   have h2:=(pvC c k).next.below_rng (n:=2 * m+1) (by omega)
   exact inB_of (by show -m<=_ - m; omega) (by show _ - m<=m; omega) (by show -m<=_ - m; omega) (by show _ - m<=m; omega)
def pgN (c:Cu code):Nat:=(3+c.below 3).toNat
theorem pgN_rng (c:Cu code):3<=pgN c/\pgN c<=5:=by
 have:=c.below_rng (n:=3) (by decide)
 unfold pgN; omega
def pgH (c:Cu code) (m:Int):List DV:=hullD (pvL c.next m (pgN c))
def pgC (c:Cu code):Cu code:=pvC c.next (pgN c)
def pgT:List DV:=[(-1,-1),(1,-1),(0,1)]
noncomputable def pgD (c:Cu code) (m:Int):Nat->List DV × Cu code
 | 0=>(pgT,c)
 | k+1=>if polyB (pgH c m)=true then (pgH c m,pgC c) else pgD (pgC c) m k
def pgS (c:Cu code):Nat->Cu code
 | 0=>c
 | k+1=>pgC (pgS c k)
theorem pgD_step (c:Cu code) (m:Int) {k:Nat} (hk:k < 8) (h:pgD c m 8=pgD (pgS c k) m (8 - k)):pgD c m 8=if polyB (pgH (pgS c k) m)=true then (pgH (pgS c k) m,pgC (pgS c k)) else pgD (pgS c (k+1)) m (8 - (k+1)):=by
 rw [h,show 8 - k=(8 - (k+1))+1 by omega]; rfl
set_option maxHeartbeats 1000000 in
theorem l06Draw_fn (hc:code.length<=1048576) (c:Cu code) (m:Int) (hm:1<=m/\m<=20):Dr 60 c (pgD c m 8).2 [⟨.int,m⟩] true ⟨.slice tVec,(pgD c m 8).1⟩:=by
 generalize hX:pgD c m 8=X
 refine fnC_enter tabOK mixes Tryz.func60 rfl rfl _ Tryz.ntmps60 _ Tryz.results60 (by simp) (cz_ok hc _) (cz_one _) fun b u0 hwl hzs hwf=>?_
 try simp (maxSteps:=9^9) only[go_sem]
 refine LoopG.intro _ _ _ (fun k:Nat=>⟨[(0,.ptr 0 0),(1,.sc (.int .i64 m)),(5,.sc (.int .i64 k))],[(0,.bx (some b) (.fx u0 .u8 code :: (cz (pgS c k)).map fun z=>.sc z))]⟩) (fun k=>k<=8/\X=pgD (pgS c k) m (8 - k)) (fun k=>8 - k) 0 ?_ ⟨by omega,hX.symm⟩ ?_
 ·exact WK
 ·rintro k ⟨hk,hk2⟩
  have hn:=pgN_rng (pgS c k)
  have hb3:=(pgS c k).below_rng (n:=3) (by decide)
  have eN:3+(pgS c k).below 3=(pgN (pgS c k):Int):=by unfold pgN; omega
  try simp (maxSteps:=9^9) only[go_sem]
  refine CondW_dec (fun hA=>?_) (fun hA=>?_)
  ·have hst:=pgD_step c m (k:=k) (by omega) (by rw [hX]; exact hk2)
   rw [hX] at hst
   try simp (maxSteps:=9^9) only[go_sem]
   repeat refine AI ?_
   refine CallW.c false (l01Below_fn hc (pgS c k) 3 (by omega)) ?_
   try simp (maxSteps:=9^9) only[go_sem]
   repeat refine AI ?_
   try simp (maxSteps:=9^9) only[go_sem,eN]
   repeat refine AI ?_
   refine LoopG.intro _ _ _ (fun j:Nat=>⟨[(0,.ptr 0 0),(1,.sc (.int .i64 m)),(5,.sc (.int .i64 k)),(6,.row 1 0),(7,.sc (.int .i64 ((pgN (pgS c k):Int) - j)))],[(0,.bx (some b) (.fx u0 .u8 code :: (cz (pvC (pgS c k).next j)).map fun z=>.sc z)),(1,.row 61 tVec 0 true (pvL (pgS c k).next m j))]⟩) (fun j=>j<=pgN (pgS c k)) (fun j=>pgN (pgS c k) - j) 0 ?_ (Nat.zero_le _) ?_
   ·exact WK
   ·rintro j hj
    have hjl:=pvL_len (pgS c k).next m j
    have r1:=(pvC (pgS c k).next j).below_rng (n:=2 * m+1) (by omega)
    have r2:=(pvC (pgS c k).next j).next.below_rng (n:=2 * m+1) (by omega)
    try simp (maxSteps:=9^9) only[go_sem]
    refine CondW_dec (fun hB=>?_) (fun hB=>?_)
    ·try simp (maxSteps:=9^9) only[go_sem]
     repeat refine AI ?_
     repeat refine AI ?_
     refine CallW.c false (l01Below_fn hc (pvC (pgS c k).next j) (2 * m+1) (by omega)) ?_
     try simp (maxSteps:=9^9) only[go_sem]
     repeat refine AI ?_
     repeat refine AI ?_
     refine CallW.c false (l01Below_fn hc (pvC (pgS c k).next j).next (2 * m+1) (by omega)) ?_
     try simp (maxSteps:=9^9) only[go_sem]
     try simp (maxSteps:=9^9) only[go_sem,hjl]
     repeat refine AI ?_
     refine LoopK.mk (j+1) ?_ (by omega) (by omega)
     rw [show pvL (pgS c k).next m (j+1)=pvL (pgS c k).next m j++[((pvC (pgS c k).next j).below (2 * m+1) - m,(pvC (pgS c k).next j).next.below (2 * m+1) - m)] from rfl]
     exact WK
    ·have ej:j=pgN (pgS c k):=by omega
     subst ej
     have hin:=pvL_in (pgS c k).next (m:=m) (by omega) (pgN (pgS c k))
     have c1:=specHull_fn (pvL (pgS c k).next m (pgN (pgS c k))) (fun v hv=>by have:=inB_b (hin v hv); exact inB_of (by omega) (by omega) (by omega) (by omega)) (by omega)
     have c2:=specIsPolygon_fn (pgH (pgS c k) m)
     rw [show hullD (pvL (pgS c k).next m (pgN (pgS c k)))=pgH (pgS c k) m from rfl] at c1
     cases hp:polyB (pgH (pgS c k) m)<;>rw [hp] at c2 hst
     ·try simp (maxSteps:=9^9) only[go_sem]
      repeat refine AI ?_
      refine cw c1 ?_
      try simp (maxSteps:=9^9) only[go_sem]
      repeat refine AI ?_
      refine cw c2 ?_
      try simp (maxSteps:=9^9) only[go_sem]
      repeat refine AI ?_
      refine LoopK.mk (k+1) ?_ ⟨by omega,hst⟩ (by omega)
      exact WK
     ·have e2:X=(pgH (pgS c k) m,pgC (pgS c k)):=hst
      rw [e2]
      try simp (maxSteps:=9^9) only[go_sem]
      repeat refine AI ?_
      refine cw c1 ?_
      try simp (maxSteps:=9^9) only[go_sem]
      repeat refine AI ?_
      refine cw c2 ?_
      try simp (maxSteps:=9^9) only[go_sem]
      exact ⟨rfl,rfl⟩
  ·have ek:k=8:=by omega
   subst ek
   have e2:X=(pgT,pgS c 8):=hk2
   rw [e2]
   try simp (maxSteps:=9^9) only[go_sem]
   all_goals repeat refine AI ?_
   all_goals first|kernel_rfl|omega|rfl
end Go.Proofs.YtbnkojgcbmfloaaGreat.DW

namespace Go.Proofs.YtbnkojgcbmfloaaGreat
open Go.RowKit
set_option maxHeartbeats 400000 in
theorem slicesEqual_any (va vb:Value) (a b:DIntS) (w:World) (ha:Has RIntS w [va] a) (hb:Has RIntS w [vb] b) :
  Calls Tryz.prog 113 #[va,vb] w (Post (EqPost a b w)):=by
 obtain ⟨aa,ca,rfl,la,ma,ga⟩:=ha.elems
 obtain ⟨ab,cb,rfl,lb,mb,gb⟩:=hb.elems
 unfold maxLen at ma mb
 have HA:=Lib.hid ga; have HB:=Lib.hid gb; clear ga gb ha hb
 by_cases hl:a.length=b.length
 rotate_left
 ·have hn:((a.length:Int) != (b.length:Int))=true:=by simp; omega
  have HL:=Lib.hid hl; clear hl
  go_enter Tryz.func113,Tryz.ntmps113
  go_wp2
  go_ret
  exact ⟨_,rfl,congrArg Value.bool (eqb_false fun h=>HL.out (by rw [h])).symm,Below.refl _ _⟩
 have hn:((a.length:Int) != (b.length:Int))=false:=by simp; omega
 have HL:=Lib.hid hl; clear hl
 go_enter Tryz.func113,Tryz.ntmps113
 go_wp2
 go_loopw [13] (fun i wr=>∃ k:Nat,k<=a.length/\i=.int .i64 k/\a.take k=b.take k/\Below w.heap.size w wr) (fun i _=>a.length - (intOf i).toNat)
 case atStart=>exact ⟨0,Nat.zero_le _,rfl,rfl,Below.refl _ _⟩
 case round =>
  obtain ⟨k,hk,rfl,htk,hbw⟩:=hrel
  have HT:=Lib.hid htk; clear htk
  by_cases hlt:k < a.length
  rotate_left
  ·go_wp2
   go_ret
   exact ⟨_,rfl,congrArg Value.bool (eqb_true (by have h1:=HT.out; have h2:=HL.out; rwa [List.take_of_length_le (by omega),List.take_of_length_le (by omega)] at h1)).symm,hbw⟩
  have hlt':k < b.length:=by have:=HL.out; omega
  obtain ⟨b1,o1,cs1,rfl,hbl,hx,hcs⟩:=HA.out k hlt
  obtain ⟨b2,o2,cs2,rfl,hbl2,hy,hds⟩:=HB.out k hlt'
  obtain ⟨c0,rfl⟩:=list1 hx.len
  obtain ⟨d0,rfl⟩:=list1 hy.len
  obtain rfl:=hx.int.1
  obtain rfl:=hy.int.1
  have g0:wr.cell? ⟨b1,o1+k,none⟩=some (.int .i64 a[k]):=(hbw.cell (p:=⟨b1,_,none⟩) hbl).trans (by simpa [Rp.int] using hcs 0 _ rfl)
  have e0:wr.cell? ⟨b2,o2+k,none⟩=some (.int .i64 b[k]):=(hbw.cell (p:=⟨b2,_,none⟩) hbl2).trans (by simpa [Rp.int] using hds 0 _ rfl)
  clear hcs hds hx hy
  by_cases hab:a[k]=b[k]
  ·have hn:(a[k] != b[k])=false:=by simp [hab]
   have HAB:=Lib.hid hab; clear hab
   go_wp2
   go_quiet (fail)
   go_wp2
   go_roundw
   case rel=>exact ⟨k+1,by omega,by go_num,by rw [List.take_succ_eq_append_getElem hlt,List.take_succ_eq_append_getElem hlt',HT.out,HAB.out],hbw.drewN _⟩
   case measure=>simp [intOf]; omega
  ·have hn:(a[k] != b[k])=true:=by simp [hab]
   have HAB:=Lib.hid hab; clear hab
   go_wp2
   go_quiet (fail)
   go_wp2
   go_ret
   exact ⟨_,rfl,congrArg Value.bool (eqb_false fun h=>HAB.out (by subst h; rfl)).symm,hbw.drewN _⟩
set_option maxHeartbeats 400000 in
theorem implRatEqual_any (c0 c1 c2 d0 d1 d2:Value) (x y:DRat) (w:World) (hx:Has RRat w [c0,c1,c2] x) (hy:Has RRat w [d0,d1,d2] y) :
  Calls Tryz.prog 78 #[.agg #[c0,c1,c2],.agg #[d0,d1,d2]] w (Post (EqPost x y w)):=by
 obtain ⟨hx0,hx1⟩:=hx.split [c0,c1] [c2] rfl
 obtain ⟨hx00,hx01⟩:=hx0.split [c0] [c1] rfl
 obtain ⟨hy0,hy1⟩:=hy.split [d0,d1] [d2] rfl
 obtain ⟨hy00,hy01⟩:=hy0.split [d0] [d1] rfl
 obtain rfl:=hx00.bool
 obtain rfl:=hy00.bool
 have HX1:=Lib.hid hx1; have HX2:=Lib.hid hx01; have HY1:=Lib.hid hy1; have HY2:=Lib.hid hy01
 clear hx hy hx0 hx1 hy0 hy1 hx00 hx01 hy00 hy01
 have hb0:=((Below.refl w.heap.size w).alloc (Nat.le_refl _) (Obj.cells #[.bool x.1.1,c1,c2] 31)).alloc (by simp<;>omega) (Obj.cells #[.bool y.1.1,d1,d2] 31)
 by_cases he0:x.1.1=y.1.1
 rotate_left
 ·have hn:(x.1.1 == y.1.1)=false:=by simp [he0]
  have HN:=Lib.hid he0; clear he0
  go_enter Tryz.func78,Tryz.ntmps78
  go_wp2
  go_ret
  exact ⟨_,rfl,congrArg Value.bool (eqb_false fun h=>HN.out (by rw [h])).symm,hb0⟩
 have hn0:(x.1.1 == y.1.1)=true:=by simp [he0]
 have HE0:=Lib.hid he0; clear he0
 go_enter Tryz.func78,Tryz.ntmps78
 go_wp2_with fail
 refine (slicesEqual_any _ _ _ _ _ (HX2.out.below hb0) (HY2.out.below hb0)).mono ?_
 rintro e w1 ⟨v,rfl,rfl,hbx1⟩
 have hb1:=Below.up hb0 hbx1 hb0.size
 obtain ⟨hc1,hf1⟩:=bcell hbx1
 by_cases he1:x.1.2=y.1.2
 rotate_left
 ·rw [eqb_false he1]
  have HN:=Lib.hid he1; clear he1
  go_wp2
  go_ret
  exact ⟨_,rfl,congrArg Value.bool (eqb_false fun h=>HN.out (by rw [h])).symm,hb1⟩
 rw [eqb_true he1]
 have HE1:=Lib.hid he1; clear he1
 go_wp2_with fail
 refine (slicesEqual_any _ _ _ _ _ (HX1.out.below hb1) (HY1.out.below hb1)).mono ?_
 rintro e w2 ⟨v,rfl,rfl,hbx2⟩
 have hb2:=Below.up hb1 hbx2 hb1.size
 by_cases he2:x.2=y.2
 rotate_left
 ·rw [eqb_false he2]
  have HN:=Lib.hid he2; clear he2
  go_wp2
  go_ret
  exact ⟨_,rfl,congrArg Value.bool (eqb_false fun h=>HN.out (by rw [h])).symm,hb2⟩
 rw [eqb_true he2]
 have HE2:=Lib.hid he2; clear he2
 go_wp2
 go_ret
 exact ⟨_,rfl,congrArg Value.bool (eqb_true (Prod.ext (Prod.ext HE0.out HE1.out) HE2.out)).symm,hb2⟩
set_option maxHeartbeats 400000 in
theorem implSamePoint_any (c0 c1 c2 c3 c4 c5 d0 d1 d2 d3 d4 d5:Value) (x y:DPoint) (w:World) (hx:Has RPoint w [c0,c1,c2,c3,c4,c5] x) (hy:Has RPoint w [d0,d1,d2,d3,d4,d5] y) :
  Calls Tryz.prog 48 #[.agg #[c0,c1,c2,c3,c4,c5],.agg #[d0,d1,d2,d3,d4,d5]] w (Post (EqPost x y w)):=by
 obtain ⟨hx0,hx1⟩:=hx.split [c0,c1,c2] [c3,c4,c5] rfl
 obtain ⟨hy0,hy1⟩:=hy.split [d0,d1,d2] [d3,d4,d5] rfl
 have HX0:=Lib.hid hx0; have HX1:=Lib.hid hx1; have HY0:=Lib.hid hy0; have HY1:=Lib.hid hy1
 clear hx hy hx0 hx1 hy0 hy1
 have hb0:=((Below.refl w.heap.size w).alloc (Nat.le_refl _) (Obj.cells #[c0,c1,c2,c3,c4,c5] 33)).alloc (by simp<;>omega) (Obj.cells #[d0,d1,d2,d3,d4,d5] 33)
 go_enter Tryz.func48,Tryz.ntmps48
 go_wp2_with fail
 refine (implRatEqual_any _ _ _ _ _ _ _ _ _ (HX0.out.below hb0) (HY0.out.below hb0)).mono ?_
 rintro e w1 ⟨v,rfl,rfl,hbx1⟩
 have hb1:=Below.up hb0 hbx1 hb0.size
 obtain ⟨hc1,hf1⟩:=bcell hbx1
 by_cases he1:x.1=y.1
 rotate_left
 ·rw [eqb_false he1]
  have HN:=Lib.hid he1; clear he1
  go_wp2
  go_ret
  exact ⟨_,rfl,congrArg Value.bool (eqb_false fun h=>HN.out (by rw [h])).symm,hb1⟩
 rw [eqb_true he1]
 have HE1:=Lib.hid he1; clear he1
 go_wp2_with fail
 refine (implRatEqual_any _ _ _ _ _ _ _ _ _ (HX1.out.below hb1) (HY1.out.below hb1)).mono ?_
 rintro e w2 ⟨v,rfl,rfl,hbx2⟩
 have hb2:=Below.up hb1 hbx2 hb1.size
 by_cases he2:x.2=y.2
 rotate_left
 ·rw [eqb_false he2]
  have HN:=Lib.hid he2; clear he2
  go_wp2
  go_ret
  exact ⟨_,rfl,congrArg Value.bool (eqb_false fun h=>HN.out (by rw [h])).symm,hb2⟩
 rw [eqb_true he2]
 have HE2:=Lib.hid he2; clear he2
 go_wp2
 go_ret
 exact ⟨_,rfl,congrArg Value.bool (eqb_true (Prod.ext HE1.out HE2.out)).symm,hb2⟩
end Go.Proofs.YtbnkojgcbmfloaaGreat

namespace Go.Proofs.YtbnkojgcbmfloaaGreat
open Go.RowKit
end Go.Proofs.YtbnkojgcbmfloaaGreat

namespace Go.Proofs.YtbnkojgcbmfloaaGreat
open Go.RowKit
end Go.Proofs.YtbnkojgcbmfloaaGreat

namespace Go.Proofs.YtbnkojgcbmfloaaGreat.DW
open Go.RowKit
@[go_sem] theorem mkBigInt_sc0 (x:DBigInt) (k:Int):(mkBigInt x k).1=x.1:=(rfl)
@[go_sem] theorem mkRat_sc0 (x:DRat) (k:Int):(mkRat x k).1.1=x.1.1:=(rfl)
@[go_sem] theorem mkPoint_sc0 (x:DPoint) (k:Int):(mkPoint x k).1.1.1=x.1.1.1:=(rfl)
@[go_sem] theorem mkPoint_sc1 (x:DPoint) (k:Int):(mkPoint x k).2.1.1=x.2.1.1:=(rfl)
@[go_sem] theorem mkPlacement_sc0 (x:DPlacement) (k:Int):(mkPlacement x k).1=x.1:=(rfl)
@[go_sem] theorem mkPlacement_sc1 (x:DPlacement) (k:Int):(mkPlacement x k).2.1.1.1=x.2.1.1.1:=(rfl)
@[go_sem] theorem mkPlacement_sc2 (x:DPlacement) (k:Int):(mkPlacement x k).2.2.1.1=x.2.2.1.1:=(rfl)
abbrev DT:Type:=List DV × (DS × List DS)
theorem implSame_fn (p q:DP):Fn Tryz.prog 48 [⟨tPoint,p⟩,⟨tPoint,q⟩] false [⟨.bool,eqb p q⟩]:=by
 refine Fn.ofEq (enters Tryz.func48 rfl rfl) fun w v cs u ds hp hx hq hy=>?_
 obtain rfl:=pk_agg rfl hp
 obtain ⟨c0,c1,c2,c3,c4,c5,rfl⟩:=list6 hx.len
 obtain rfl:=pk_agg rfl hq
 obtain ⟨d0,d1,d2,d3,d4,d5,rfl⟩:=list6 hy.len
 exact implSamePoint_any _ _ _ _ _ _ _ _ _ _ _ _ p q w hx hy
noncomputable def tvStep (p x:DS):Bool:=decide (-1<=x.1/\x.1<=1) && (okPt x.2 && (decide (x.1=0) || eqb x.2 p.2))
noncomputable def tvGo:DS->List DS->Bool
 | _,[]=>true
 | p,x :: l=>tvStep p x && tvGo (stp p x) l
noncomputable def plcF (p:DS) (l:List DS):DS:=l.foldl stp p
noncomputable def plcS (p:DS) (l:List DS) (i:Nat):DS:=plcF p (l.take i)
theorem plcS_step (p:DS) {l:List DS} {i:Nat} (h:i < l.length):plcS p l (i+1)=stp (plcS p l i) (nth (t:=tStep) l i):=by
 unfold plcS plcF
 rw [List.take_succ_eq_append_getElem h,nth_lt h]
 simp only [List.foldl_append,List.foldl_cons,List.foldl_nil]
theorem tvGo_at {p:DS} {l:List DS} {i:Nat} (h:i < l.length):tvGo p (l.drop i)=(tvStep p (nth (t:=tStep) l i) && tvGo (stp p (nth (t:=tStep) l i)) (l.drop (i+1))):=by
 rw [List.drop_eq_getElem_cons h,nth_lt h]; rfl
noncomputable def tourB (t:DT):Bool:=smB t.1 20 && (decide (0<=t.2.1.1/\t.2.1.1<=3) && (okPt t.2.1.2 && (decide ((t.2.2.length:Int)<=8) && tvGo t.2.1 t.2.2)))
theorem implIsValidTour_fn (t:DT):Fn Tryz.prog 15 [⟨tTour,t⟩] false [⟨.bool,tourB t⟩]:=by
 obtain ⟨r,p,l⟩:=t
 have c1:=isSmall_fn r 20 (by decide)
 have c2:=isHeading_fn p.1
 have c3:=arePoints1_fn p.2
 unfold tourB
 cases h1:smB r 20<;>rw [h1] at c1
 ·refine fe Tryz.func15 Tryz.ntmps15 Tryz.results15 fun hwf=>?_
  try simp (maxSteps:=9^9) only[go_sem]
  repeat refine AI ?_
  refine cw c1 ?_
  try simp (maxSteps:=9^9) only[go_sem]
 ·cases h2:decide (0<=p.1/\p.1<=3)<;>rw [h2] at c2
  ·refine fe Tryz.func15 Tryz.ntmps15 Tryz.results15 fun hwf=>?_
   try simp (maxSteps:=9^9) only[go_sem]
   repeat refine AI ?_
   refine cw c1 ?_
   try simp (maxSteps:=9^9) only[go_sem]
   repeat refine AI ?_
   refine cw c2 ?_
   try simp (maxSteps:=9^9) only[go_sem]
  ·cases h3:okPt p.2<;>rw [h3] at c3
   ·refine fe Tryz.func15 Tryz.ntmps15 Tryz.results15 fun hwf=>?_
    try simp (maxSteps:=9^9) only[go_sem]
    repeat refine AI ?_
    refine cw c1 ?_
    try simp (maxSteps:=9^9) only[go_sem]
    repeat refine AI ?_
    refine cw c2 ?_
    try simp (maxSteps:=9^9) only[go_sem]
    repeat refine AI ?_
    refine cw c3 ?_
    try simp (maxSteps:=9^9) only[go_sem]
   ·by_cases h4:(l.length:Int)<=8
    ·have d4:decide ((8:Int) < l.length)=false:=decide_eq_false (by omega)
     rw [decide_eq_true h4]
     refine fe Tryz.func15 Tryz.ntmps15 Tryz.results15 fun hwf=>?_
     try simp (maxSteps:=9^9) only[go_sem]
     repeat refine AI ?_
     refine cw c1 ?_
     try simp (maxSteps:=9^9) only[go_sem]
     repeat refine AI ?_
     refine cw c2 ?_
     try simp (maxSteps:=9^9) only[go_sem]
     repeat refine AI ?_
     refine cw c3 ?_
     try simp (maxSteps:=9^9) only[go_sem]
     try simp (maxSteps:=9^9) only[go_sem,d4]
     refine LoopG.intro _ _ _ (fun i:Nat=>⟨[(3,.ptr 2 0),(34,.sl tStep l),(35,.sc (.int .i64 l.length)),(36,.sc (.int .i64 i))],[(2,.box [.sc (.int .i64 (plcS p l i).1),.sc (.bool (plcS p l i).2.1.1.1),.sl .int (plcS p l i).2.1.1.2,.sl .int (plcS p l i).2.1.2,.sc (.bool (plcS p l i).2.2.1.1),.sl .int (plcS p l i).2.2.1.2,.sl .int (plcS p l i).2.2.2])]⟩) (fun i=>tvGo p l=tvGo (plcS p l i) (l.drop i)) (fun i=>l.length - i) 0 ?_ rfl ?_
     ·exact WK
     ·rintro i hi
      try simp (maxSteps:=9^9) only[go_sem]
      refine CondW_dec (fun hA=>?_) (fun hA=>?_)
      ·have hst:=plcS_step p (show i < l.length by omega)
       rw [tvGo_at (by omega)] at hi
       have c4:=within_fn (nth (t:=tStep) l i).1 (-1) 1
       have c5:=arePoints1_fn (nth (t:=tStep) l i).2
       have c6:=implSame_fn (nth (t:=tStep) l i).2 (plcS p l i).2
       have c7:=stepped_fn (plcS p l i) (nth (t:=tStep) l i)
       generalize hq:plcS p l i=q at hi hst c6 c7 ⊢
       cases e1:decide (-1<=(nth (t:=tStep) l i).1/\(nth (t:=tStep) l i).1<=1)<;>rw [e1] at c4
       ·have e0:tvStep q (nth (t:=tStep) l i)=false:=by unfold tvStep; rw [e1]; rfl
        rw [e0] at hi
        rw [hi]
        try simp (maxSteps:=9^9) only[go_sem]
        repeat refine AI ?_
        repeat refine AI ?_
        refine cw c4 ?_
        try simp (maxSteps:=9^9) only[go_sem]
       ·cases e2:okPt (nth (t:=tStep) l i).2<;>rw [e2] at c5
        ·have e0:tvStep q (nth (t:=tStep) l i)=false:=by unfold tvStep; rw [e1,e2]; rfl
         rw [e0] at hi
         rw [hi]
         try simp (maxSteps:=9^9) only[go_sem]
         repeat refine AI ?_
         repeat refine AI ?_
         refine cw c4 ?_
         try simp (maxSteps:=9^9) only[go_sem]
         repeat refine AI ?_
         refine cw c5 ?_
         try simp (maxSteps:=9^9) only[go_sem]
        ·by_cases e3:(nth (t:=tStep) l i).1=0
         ·have e0:tvStep q (nth (t:=tStep) l i)=true:=by unfold tvStep; rw [e1,e2,decide_eq_true e3]; rfl
          have d3:=decide_eq_true e3
          rw [e0,Bool.true_and,<-hst] at hi
          try simp (maxSteps:=9^9) only[go_sem]
          repeat refine AI ?_
          repeat refine AI ?_
          refine cw c4 ?_
          try simp (maxSteps:=9^9) only[go_sem]
          repeat refine AI ?_
          refine cw c5 ?_
          try simp (maxSteps:=9^9) only[go_sem]
          try simp (maxSteps:=9^9) only[go_sem,d3]
          repeat refine AI ?_
          refine cw c7 ?_
          try simp (maxSteps:=9^9) only[go_sem]
          repeat refine AI ?_
          refine LoopK.mk (i+1) ?_ hi (by omega)
          rw [hst]
          exact WK
         ·have d3:=decide_eq_false e3
          cases e4:eqb (nth (t:=tStep) l i).2 q.2<;>rw [e4] at c6
          ·have e0:tvStep q (nth (t:=tStep) l i)=false:=by unfold tvStep; rw [e1,e2,d3,e4]; rfl
           rw [e0] at hi
           rw [hi]
           try simp (maxSteps:=9^9) only[go_sem]
           repeat refine AI ?_
           repeat refine AI ?_
           refine cw c4 ?_
           try simp (maxSteps:=9^9) only[go_sem]
           repeat refine AI ?_
           refine cw c5 ?_
           try simp (maxSteps:=9^9) only[go_sem]
           try simp (maxSteps:=9^9) only[go_sem,d3]
           repeat refine AI ?_
           refine cw c6 ?_
           try simp (maxSteps:=9^9) only[go_sem]
          ·have e0:tvStep q (nth (t:=tStep) l i)=true:=by unfold tvStep; rw [e1,e2,d3,e4]; rfl
           rw [e0,Bool.true_and,<-hst] at hi
           try simp (maxSteps:=9^9) only[go_sem]
           repeat refine AI ?_
           repeat refine AI ?_
           refine cw c4 ?_
           try simp (maxSteps:=9^9) only[go_sem]
           repeat refine AI ?_
           refine cw c5 ?_
           try simp (maxSteps:=9^9) only[go_sem]
           try simp (maxSteps:=9^9) only[go_sem,d3]
           repeat refine AI ?_
           refine cw c6 ?_
           try simp (maxSteps:=9^9) only[go_sem]
           repeat refine AI ?_
           refine cw c7 ?_
           try simp (maxSteps:=9^9) only[go_sem]
           repeat refine AI ?_
           refine LoopK.mk (i+1) ?_ hi (by omega)
           rw [hst]
           exact WK
      ·rw [hi,List.drop_eq_nil_of_le (by omega),show tvGo (plcS p l i) []=true from rfl]
       try simp (maxSteps:=9^9) only[go_sem]
    ·have d4:decide ((8:Int) < l.length)=true:=decide_eq_true (by omega)
     rw [decide_eq_false h4]
     refine fe Tryz.func15 Tryz.ntmps15 Tryz.results15 fun hwf=>?_
     try simp (maxSteps:=9^9) only[go_sem]
     repeat refine AI ?_
     refine cw c1 ?_
     try simp (maxSteps:=9^9) only[go_sem]
     repeat refine AI ?_
     refine cw c2 ?_
     try simp (maxSteps:=9^9) only[go_sem]
     repeat refine AI ?_
     refine cw c3 ?_
     try simp (maxSteps:=9^9) only[go_sem]
     try simp (maxSteps:=9^9) only[go_sem,d4]
theorem l05Copy_fn (p:DP) (h:okPt p=true):Fn Tryz.prog 63 [⟨tPoint,p⟩] true [⟨tPoint,p⟩]:=by
 unfold okPt at h
 rw [Bool.and_eq_true] at h
 have h1:=okR_len h.1
 have h2:=okR_len h.2
 have c1:=l04Copy_fn p.1 (by omega) (by omega)
 have c2:=l04Copy_fn p.2 (by omega) (by omega)
 refine fe Tryz.func63 Tryz.ntmps63 Tryz.results63 fun hwf=>?_
 try simp (maxSteps:=9^9) only[go_sem]
 repeat refine AI ?_
 refine cw c1 ?_
 try simp (maxSteps:=9^9) only[go_sem]
 repeat refine AI ?_
 refine cw c2 ?_
 try simp (maxSteps:=9^9) only[go_sem]
 all_goals repeat refine AI ?_
 all_goals first|kernel_rfl|omega|rfl
def clip (k:Int) (n:Nat):Nat:=(max 0 (min k (n:Int))).toNat
theorem after_fn (p:DS) (l:List DS) (k:Int):Fn Tryz.prog 100 [⟨tStep,p⟩,⟨.slice tStep,l⟩,⟨.int,k⟩] false [⟨tStep,plcS p l (clip k l.length)⟩]:=by
 unfold plcS clip
 refine fe Tryz.func100 Tryz.ntmps100 Tryz.results100 fun hwf=>?_
 have hl:l.length<=9223372036854775807:=(hwf ⟨.slice tStep,l⟩ (by simp)).1
 try simp (maxSteps:=9^9) only[go_sem]
 have hml:(List.take (max 0 (min k ↑l.length)).toNat l).length<=9223372036854775807:=by rw [List.length_take]; omega
 generalize List.take (max 0 (min k ↑l.length)).toNat l=m at hml ⊢
 repeat refine AI ?_
 refine LoopG.intro _ _ _ (fun i:Nat=>⟨[(3,.ptr 0 0),(6,.ptr 1 0),(15,.sl tStep m),(16,.sc (.int .i64 m.length)),(17,.sc (.int .i64 i))],[(1,.box [.sc (.int .i64 0),.sc (.bool false),.sc (.slice none 0 0),.sc (.slice none 0 0),.sc (.bool false),.sc (.slice none 0 0),.sc (.slice none 0 0)]),(0,.box [.sc (.int .i64 (plcS p m i).1),.sc (.bool (plcS p m i).2.1.1.1),.sl .int (plcS p m i).2.1.1.2,.sl .int (plcS p m i).2.1.2,.sc (.bool (plcS p m i).2.2.1.1),.sl .int (plcS p m i).2.2.1.2,.sl .int (plcS p m i).2.2.2])]⟩) (fun i=>i<=m.length) (fun i=>m.length - i) 0 ?_ (Nat.zero_le _) ?_
 ·exact WK
 ·rintro i hi
  try simp (maxSteps:=9^9) only[go_sem]
  refine CondW_dec (fun hA=>?_) (fun hA=>?_)
  ·have hst:=plcS_step p (show i < m.length by omega)
   have c1:=stepped_fn (plcS p m i) (nth (t:=tStep) m i)
   try simp (maxSteps:=9^9) only[go_sem]
   repeat refine AI ?_
   repeat refine AI ?_
   refine cw c1 ?_
   try simp (maxSteps:=9^9) only[go_sem]
   repeat refine AI ?_
   refine LoopK.mk (i+1) ?_ (by omega) (by omega)
   rw [hst]
   exact WK
  ·have:plcF p m=plcS p m i:=by unfold plcS; rw [List.take_of_length_le (by omega)]
   rw [this]
   try simp (maxSteps:=9^9) only[go_sem]
   all_goals repeat refine AI ?_
   all_goals first|kernel_rfl|omega|rfl
theorem okPt_stp {p x:DS} (hp:okPt p.2=true) (hx:okPt x.2=true):okPt (stp p x).2=true:=by
 unfold stp
 split
 ·exact hx
 ·split
  ·exact hp
  ·exact hp
theorem okPt_go {l:List DS}:∀ {p:DS},okPt p.2=true->tvGo p l=true->∀ i,okPt (plcS p l i).2=true:=by
 induction l with
 | nil=>intro p hp _ i; unfold plcS; rw [List.take_nil]; exact hp
 | cons x l ih =>
  intro p hp h i
  have h':(tvStep p x && tvGo (stp p x) l)=true:=h
  rw [Bool.and_eq_true] at h'
  have hx:okPt x.2=true:=by
   have:=h'.1
   unfold tvStep at this
   rw [Bool.and_eq_true,Bool.and_eq_true] at this
   exact this.2.1
  cases i with
  | zero=>exact hp
  | succ i=>exact ih (okPt_stp hp hx) h'.2 i
theorem okPt_tour {t:DT} (h:tourB t=true) (i:Nat):okPt (plcS t.2.1 t.2.2 i).2=true:=by
 unfold tourB at h
 simp only [Bool.and_eq_true] at h
 exact okPt_go h.2.2.1 h.2.2.2.2 i
noncomputable def standP (t:DT) (k:Int):DS:=plcS t.2.1 t.2.2 (clip k t.2.2.length)
theorem stand_fn (t:DT) (k:Int):Fn Tryz.prog 68 [⟨tTour,t⟩,⟨.int,k⟩] false [⟨tStep,standP t k⟩]:=by
 have c1:=after_fn t.2.1 t.2.2 k
 refine fe Tryz.func68 Tryz.ntmps68 Tryz.results68 fun hwf=>?_
 unfold standP
 try simp (maxSteps:=9^9) only[go_sem]
 repeat refine AI ?_
 refine cw c1 ?_
 try simp (maxSteps:=9^9) only[go_sem]
 all_goals repeat refine AI ?_
 all_goals first|kernel_rfl|omega|rfl
theorem differenceP_fn (p q:DP) (hp:okPt p=true) (hq:okPt q=true):Fn Tryz.prog 72 [⟨tPoint,p⟩,⟨tPoint,q⟩] true [⟨tPoint,subP p q⟩]:=by
 obtain ⟨p1,p2⟩:=Bool.and_eq_true_iff.1 (show (okR p.1 && okR p.2)=true from hp)
 obtain ⟨q1,q2⟩:=Bool.and_eq_true_iff.1 (show (okR q.1 && okR q.2)=true from hq)
 have h2:=difference_fn (rdO p.1) (rdO p.2) (rdO q.1) (rdO q.2) (okO_rdO _) (okO_rdO _) (okO_rdO _) (okO_rdO _)
 rw [okR_oD p1,okR_oD p2,okR_oD q1,okR_oD q2] at h2
 unfold subP
 exact h2
theorem stp_hd {p x:DS} (hp:0<=p.1/\p.1<=3):0<=(stp p x).1/\(stp p x).1<=3:=by
 unfold stp
 split
 ·exact hp
 ·split
  ·rename_i h
   show 0<=nxH p.1 x.1/\nxH p.1 x.1<=3
   rw [nxH_in hp h]
   omega
  ·exact hp
theorem plcF_hd:∀ {l:List DS} {p:DS},0<=p.1/\p.1<=3->0<=(plcF p l).1/\(plcF p l).1<=3
 | [],_,h=>h
 | x :: l,p,h=>plcF_hd (l:=l) (p:=stp p x) (stp_hd h)
theorem tour_parts {t:DT} (h:tourB t=true):SmP 20 t.1/\(0<=t.2.1.1/\t.2.1.1<=3)/\okPt t.2.1.2=true/\t.2.2.length<=8/\tvGo t.2.1 t.2.2=true:=by
 unfold tourB at h
 simp only [Bool.and_eq_true] at h
 obtain ⟨h1,h2,h3,h4,h5⟩:=h
 exact ⟨smB_p h1,of_decide_eq_true h2,h3,by have:=of_decide_eq_true h4; omega,h5⟩
theorem standP_hd {t:DT} (h:tourB t=true) (k:Int):0<=(standP t k).1/\(standP t k).1<=3:=plcF_hd (tour_parts h).2.1
theorem standP_ok {t:DT} (h:tourB t=true) (k:Int):okPt (standP t k).2=true:=okPt_tour h _
noncomputable def robD (t:DT) (k:Int):List DV:=t.1.map (rotN (standP t k).1.toNat)
theorem robD_sm {t:DT} (h:tourB t=true) (k:Int):SmP 20 (robD t k):=(tour_parts h).1.rot _
noncomputable def areaD (a:DT) (i:Int) (b:DT) (j:Int):List DV:=obsD (robD a i) (robD b j)
noncomputable def stTB (a:DT) (i:Int) (b:DT) (j:Int):Bool:=decide (cpD (areaD a i b j) (subP (standP a i).2 (standP b j).2) ≥ 0)
theorem areaD_poly {a b:DT} (ha:tourB a=true) (hb:tourB b=true) (i j:Int):polyP (areaD a i b j):=obs_poly (robD_sm ha i) (robD_sm hb j) (by decide)
theorem standsTouch_fn (a:DT) (i:Int) (b:DT) (j:Int) (ha:tourB a=true) (hb:tourB b=true):Fn Tryz.prog 41 [⟨tTour,a⟩,⟨.int,i⟩,⟨tTour,b⟩,⟨.int,j⟩] false [⟨.bool,stTB a i b j⟩]:=by
 have c1:=stand_fn a i
 have c2:=stand_fn b j
 have p1:=(tour_parts ha).1
 have p2:=(tour_parts hb).1
 have l1:=p1.five
 have l2:=p2.five
 have c3:=TurnPolygonI_fn a.1 (standP a i).1 p1.ok (by omega) (standP_hd ha i)
 have c4:=TurnPolygonI_fn b.1 (standP b j).1 p2.ok (by omega) (standP_hd hb j)
 have c5:=ObstacleForI_fn _ _ (robD_sm ha i) (robD_sm hb j) (by decide)
 have c6:=differenceP_fn _ _ (standP_ok ha i) (standP_ok hb j)
 have c7:=ContainsI_fn (areaD a i b j) (subP (standP a i).2 (standP b j).2) (areaD_poly ha hb i j)
 unfold robD at c5
 unfold areaD robD at c7
 unfold stTB areaD robD
 refine fe Tryz.func41 Tryz.ntmps41 Tryz.results41 fun hwf=>?_
 try simp (maxSteps:=9^9) only[go_sem]
 repeat refine AI ?_
 refine cw c1 ?_
 try simp (maxSteps:=9^9) only[go_sem]
 repeat refine AI ?_
 refine cw c2 ?_
 try simp (maxSteps:=9^9) only[go_sem]
 repeat refine AI ?_
 repeat refine AI ?_
 refine cw c3 ?_
 try simp (maxSteps:=9^9) only[go_sem]
 repeat refine AI ?_
 refine cw c4 ?_
 try simp (maxSteps:=9^9) only[go_sem]
 repeat refine AI ?_
 refine cw c5 ?_
 try simp (maxSteps:=9^9) only[go_sem]
 repeat refine AI ?_
 repeat refine AI ?_
 refine cw c6 ?_
 try simp (maxSteps:=9^9) only[go_sem]
 repeat refine AI ?_
 refine cw c7 ?_
 try simp (maxSteps:=9^9) only[go_sem]
 all_goals repeat refine AI ?_
 all_goals first|kernel_rfl|omega|rfl
theorem divO_none_l (y:Option Rat):divO none y=none:=rfl
theorem divO_none_r (x:Option Rat):divO x none=none:=by cases x<;>rfl
theorem divO_z (p:Rat) {q:Rat} (h:q=0):divO (some p) (some q)=none:=if_pos h
theorem divO_s {p q:Rat} (h:q ≠ 0):divO (some p) (some q)=capR (p / q):=by unfold divO; simp only; rw [if_neg h]
theorem okO_div (x y:Option Rat):okO (divO x y):=by
 unfold divO
 split
 ·split
  ·exact okO_none
  ·exact okO_cap _
 ·exact okO_none
theorem inv_mk {q:Rat} (h:q.num ≠ 0):q⁻¹=_root_.mkRat (if q.num < 0 then -(q.den:Int) else q.den) q.num.natAbs:=by
 rw [Rat.inv_def]
 split
 ·rename_i hn
  rw [<-Rat.neg_divInt_neg,show -q.num=((q.num.natAbs:Nat):Int) by omega,Rat.divInt_ofNat]
 ·rename_i hn
  rw [<-Rat.divInt_ofNat]
  congr 1
  omega
theorem div_mk {p q:Rat} (h:q.num ≠ 0):p / q=_root_.mkRat (p.num * (if q.num < 0 then -(q.den:Int) else q.den)) (p.den * q.num.natAbs):=by
 rw [Rat.div_def,inv_mk h]
 conv=>lhs; rw [<-Rat.mkRat_self p]
 rw [Rat.mkRat_mul_mkRat]
theorem sgn_divI {p q:Rat}:sgn (!decide (decide (p.num * (q.den:Int) < 0)=decide (q.num < 0))) (p.num * (q.den:Int)).natAbs=p.num * (if q.num < 0 then -(q.den:Int) else q.den):=by
 have hd:=den_pos' q
 unfold sgn
 by_cases h1:p.num * (q.den:Int) < 0
 ·by_cases h2:q.num < 0
  ·simp only [h1,h2,decide_true,Bool.not_true,Bool.false_eq_true,if_false,if_true]
   rw [Int.mul_neg]; omega
  ·simp only [h1,h2,decide_true,decide_false,Bool.true_eq_false,Bool.not_false,if_true,if_false]
   omega
 ·by_cases h2:q.num < 0
  ·simp only [h1,h2,decide_true,decide_false,Bool.false_eq_true,Bool.not_false,if_true]
   rw [Int.mul_neg]; omega
  ·simp only [h1,h2,decide_false,decide_true,Bool.not_true,Bool.false_eq_true,if_false]
   omega
theorem num_zero {q:Rat} (h:q.num=0):q=0:=by
 rw [<-Rat.mkRat_self q,h,Rat.zero_mkRat]
theorem ratDiv_fn (x y:Option Rat) (hx:okO x) (hy:okO y):Fn Tryz.prog 244 [⟨tRat,oD x⟩,⟨tRat,oD y⟩] true [⟨tRat,oD (divO x y)⟩]:=by
 cases x with
 | none =>
  refine fe Tryz.func244 Tryz.ntmps244 Tryz.results244 fun hwf=>?_
  try simp (maxSteps:=9^9) only[go_sem]
  repeat refine AI ?_
  refine cw isGood_n ?_
  try simp (maxSteps:=9^9) only[go_sem]
  try simp (maxSteps:=9^9) only[go_sem,divO_none_l]
 | some p =>
  cases y with
  | none =>
   refine fe Tryz.func244 Tryz.ntmps244 Tryz.results244 fun hwf=>?_
   try simp (maxSteps:=9^9) only[go_sem]
   repeat refine AI ?_
   refine cw (isGood_s p) ?_
   try simp (maxSteps:=9^9) only[go_sem]
   repeat refine AI ?_
   refine cw isGood_n ?_
   try simp (maxSteps:=9^9) only[go_sem]
   try simp (maxSteps:=9^9) only[go_sem,divO_none_r]
  | some q =>
   obtain ⟨p1,p2⟩:=hx p rfl
   obtain ⟨q1,q2⟩:=hy q rfl
   by_cases h0:q.num=0
   ·have e0:nl q.num.natAbs=0:=nl_eq_zero.2 (by omega)
    have d0:decide ((nl q.num.natAbs:Int)=0)=true:=decide_eq_true (by omega)
    rw [divO_z p (num_zero h0)]
    refine fe Tryz.func244 Tryz.ntmps244 Tryz.results244 fun hwf=>?_
    try simp (maxSteps:=9^9) only[go_sem]
    repeat refine AI ?_
    refine cw (isGood_s p) ?_
    try simp (maxSteps:=9^9) only[go_sem]
    repeat refine AI ?_
    refine cw (isGood_s q) ?_
    try simp (maxSteps:=9^9) only[go_sem]
    try simp (maxSteps:=9^9) only[go_sem,d0]
   ·have hq0:q ≠ 0:=fun h=>h0 (by rw [h]; rfl)
    have d0:decide ((nl q.num.natAbs:Int)=0)=false:=decide_eq_false (fun h=>h0 (by have:=nl_eq_zero.1 (show nl q.num.natAbs=0 by omega); omega))
    have b1:=nl_mulI p.num (q.den:Int)
    have b4:=nl_mul p.den q.num.natAbs
    rw [Int.natAbs_natCast] at b1
    have hz:=ratMake_end (p.num * (if q.num < 0 then -(q.den:Int) else q.den)) (p.den * q.num.natAbs) (Nat.mul_ne_zero p.den_nz (by omega)) (by
     rw [<-sgn_divI,sgn_abs]; omega) (by omega)
    rw [<-div_mk h0] at hz
    rw [divO_s hq0]
    have c3:=bigMulN_fn p.num q.den (by omega) (by omega)
    have c4:=bigMake_to (sgn_divI (p:=p) (q:=q))
    have c5:=natMul_fn p.den q.num.natAbs (by omega) (by omega)
    refine fe Tryz.func244 Tryz.ntmps244 Tryz.results244 fun hwf=>?_
    try simp (maxSteps:=9^9) only[go_sem]
    repeat refine AI ?_
    refine cw (isGood_s p) ?_
    try simp (maxSteps:=9^9) only[go_sem]
    repeat refine AI ?_
    refine cw (isGood_s q) ?_
    try simp (maxSteps:=9^9) only[go_sem]
    try simp (maxSteps:=9^9) only[go_sem,d0]
    repeat refine AI ?_
    refine cw c3 ?_
    try simp (maxSteps:=9^9) only[go_sem]
    repeat refine AI ?_
    repeat refine AI ?_
    refine cw c4 ?_
    try simp (maxSteps:=9^9) only[go_sem]
    repeat refine AI ?_
    refine cw c5 ?_
    try simp (maxSteps:=9^9) only[go_sem]
    repeat refine AI ?_
    refine cw hz ?_
    try simp (maxSteps:=9^9) only[go_sem]
    all_goals repeat refine AI ?_
    all_goals first|kernel_rfl|omega|rfl
def gP (p:DP):Prop:=∃ x y,okO x/\okO y/\p=(oD x,oD y)
theorem gP_1 {p:DP} (h:gP p):oD (rdO p.1)=p.1:=by
 obtain ⟨x,y,hx,hy,rfl⟩:=h
 show oD (rdO (oD x))=oD x
 rw [rdO_oD hx]
theorem gP_2 {p:DP} (h:gP p):oD (rdO p.2)=p.2:=by
 obtain ⟨x,y,hx,hy,rfl⟩:=h
 show oD (rdO (oD y))=oD y
 rw [rdO_oD hy]
theorem gP_mk {x y:Option Rat} (hx:okO x) (hy:okO y):gP (oD x,oD y):=⟨x,y,hx,hy,rfl⟩
theorem gP_ok {p:DP} (h:okPt p=true):gP p:=by
 obtain ⟨p1,p2⟩:=Bool.and_eq_true_iff.1 (show (okR p.1 && okR p.2)=true from h)
 exact ⟨rdO p.1,rdO p.2,okO_rdO _,okO_rdO _,by rw [okR_oD p1,okR_oD p2]⟩
noncomputable def sqD (p q:DP):Option Rat:=addO (mulO (subO (rdO p.1) (rdO q.1)) (subO (rdO p.1) (rdO q.1))) (mulO (subO (rdO p.2) (rdO q.2)) (subO (rdO p.2) (rdO q.2)))
theorem okO_sqD (p q:DP):okO (sqD p q):=okO_add _ _
theorem squareDistance_fn (p q:DP) (hp:gP p) (hq:gP q):Fn Tryz.prog 243 [⟨tPoint,p⟩,⟨tPoint,q⟩] true [⟨tRat,oD (sqD p q)⟩]:=by
 have c1:=ratSub_fn (rdO p.1) (rdO q.1) (okO_rdO _) (okO_rdO _)
 have c2:=ratSub_fn (rdO p.2) (rdO q.2) (okO_rdO _) (okO_rdO _)
 rw [gP_1 hp,gP_1 hq] at c1
 rw [gP_2 hp,gP_2 hq] at c2
 have c3:=ratMul_fn _ _ (okO_sub (rdO p.1) (rdO q.1)) (okO_sub (rdO p.1) (rdO q.1))
 have c4:=ratMul_fn _ _ (okO_sub (rdO p.2) (rdO q.2)) (okO_sub (rdO p.2) (rdO q.2))
 have c5:=ratAdd_fn _ _ (okO_mul (subO (rdO p.1) (rdO q.1)) (subO (rdO p.1) (rdO q.1))) (okO_mul (subO (rdO p.2) (rdO q.2)) (subO (rdO p.2) (rdO q.2)))
 unfold sqD
 refine fe Tryz.func243 Tryz.ntmps243 Tryz.results243 fun hwf=>?_
 try simp (maxSteps:=9^9) only[go_sem]
 repeat refine AI ?_
 refine cw c1 ?_
 try simp (maxSteps:=9^9) only[go_sem]
 repeat refine AI ?_
 refine cw c2 ?_
 try simp (maxSteps:=9^9) only[go_sem]
 repeat refine AI ?_
 repeat refine AI ?_
 refine cw c3 ?_
 try simp (maxSteps:=9^9) only[go_sem]
 repeat refine AI ?_
 refine cw c4 ?_
 try simp (maxSteps:=9^9) only[go_sem]
 repeat refine AI ?_
 refine cw c5 ?_
 try simp (maxSteps:=9^9) only[go_sem]
 all_goals repeat refine AI ?_
 all_goals first|kernel_rfl|omega|rfl
noncomputable def inD (a b c:DP):Option Rat:=addO (mulO (subO (rdO b.1) (rdO a.1)) (subO (rdO c.1) (rdO a.1))) (mulO (subO (rdO b.2) (rdO a.2)) (subO (rdO c.2) (rdO a.2)))
theorem okO_inD (a b c:DP):okO (inD a b c):=okO_add _ _
theorem inner_fn (a b c:DP) (ha:gP a) (hb:gP b) (hc:gP c):Fn Tryz.prog 245 [⟨tPoint,a⟩,⟨tPoint,b⟩,⟨tPoint,c⟩] true [⟨tRat,oD (inD a b c)⟩]:=by
 have c1:=ratSub_fn (rdO b.1) (rdO a.1) (okO_rdO _) (okO_rdO _)
 have c2:=ratSub_fn (rdO c.1) (rdO a.1) (okO_rdO _) (okO_rdO _)
 have c3:=ratSub_fn (rdO b.2) (rdO a.2) (okO_rdO _) (okO_rdO _)
 have c4:=ratSub_fn (rdO c.2) (rdO a.2) (okO_rdO _) (okO_rdO _)
 rw [gP_1 hb,gP_1 ha] at c1
 rw [gP_1 hc,gP_1 ha] at c2
 rw [gP_2 hb,gP_2 ha] at c3
 rw [gP_2 hc,gP_2 ha] at c4
 have c5:=ratMul_fn _ _ (okO_sub (rdO b.1) (rdO a.1)) (okO_sub (rdO c.1) (rdO a.1))
 have c6:=ratMul_fn _ _ (okO_sub (rdO b.2) (rdO a.2)) (okO_sub (rdO c.2) (rdO a.2))
 have c7:=ratAdd_fn _ _ (okO_mul (subO (rdO b.1) (rdO a.1)) (subO (rdO c.1) (rdO a.1))) (okO_mul (subO (rdO b.2) (rdO a.2)) (subO (rdO c.2) (rdO a.2)))
 unfold inD
 refine fe Tryz.func245 Tryz.ntmps245 Tryz.results245 fun hwf=>?_
 try simp (maxSteps:=9^9) only[go_sem]
 repeat refine AI ?_
 refine cw c1 ?_
 try simp (maxSteps:=9^9) only[go_sem]
 repeat refine AI ?_
 refine cw c2 ?_
 try simp (maxSteps:=9^9) only[go_sem]
 repeat refine AI ?_
 refine cw c5 ?_
 try simp (maxSteps:=9^9) only[go_sem]
 repeat refine AI ?_
 refine cw c3 ?_
 try simp (maxSteps:=9^9) only[go_sem]
 repeat refine AI ?_
 refine cw c4 ?_
 try simp (maxSteps:=9^9) only[go_sem]
 repeat refine AI ?_
 refine cw c6 ?_
 try simp (maxSteps:=9^9) only[go_sem]
 repeat refine AI ?_
 refine cw c7 ?_
 try simp (maxSteps:=9^9) only[go_sem]
 all_goals repeat refine AI ?_
 all_goals first|kernel_rfl|omega|rfl
end Go.Proofs.YtbnkojgcbmfloaaGreat.DW

namespace Go.Proofs.YtbnkojgcbmfloaaGreat.DW
open Go.RowKit
variable {code:List Int}
noncomputable def lsX (c:Cu code) (p:DS):DS:=if c.next.next.below 5=0 then (ni [1,-1] (c.next.next.next.below 2).toNat,p.2) else (0,ptV (c.below 13,c.next.below 13))
def lsN (c:Cu code):Cu code:=if c.next.next.below 5=0 then c.next.next.next.next else c.next.next.next
def lsC (c:Cu code):Nat->Cu code
 | 0=>c
 | k+1=>lsN (lsC c k)
noncomputable def lsP (c:Cu code) (p:DS):Nat->DS
 | 0=>p
 | k+1=>stp (lsP c p k) (lsX (lsC c k) (lsP c p k))
noncomputable def lsL (c:Cu code) (p:DS):Nat->List DS
 | 0=>[]
 | k+1=>lsL c p k++[lsX (lsC c k) (lsP c p k)]
theorem lsL_len (c:Cu code) (p:DS):∀ k,(lsL c p k).length=k
 | 0=>rfl
 | k+1=>by rw [lsL,List.length_append,lsL_len c p k]; rfl
def ptB (p:DP):Prop:=∃ v:DV,inB 100 v=true/\p=ptV v
theorem ptB_ok {p:DP} (h:ptB p):okPt p=true:=by
 obtain ⟨v,hv,rfl⟩:=h
 have:=inB_b hv
 exact okPt_ptV (inB_of (by omega) (by omega) (by omega) (by omega))
theorem lsX_pt (c:Cu code) {p:DS} (h:ptB p.2):ptB (lsX c p).2:=by
 unfold lsX
 split
 ·exact h
 ·have h1:=c.below_rng (n:=13) (by decide)
  have h2:=c.next.below_rng (n:=13) (by decide)
  exact ⟨_,inB_of (by show -100<=_; omega) (by show _<=(100:Int); omega) (by show -100<=_; omega) (by show _<=(100:Int); omega),rfl⟩
theorem stp_pt {p x:DS} (h:ptB p.2) (hx:ptB x.2):ptB (stp p x).2:=by
 unfold stp
 split
 ·exact hx
 ·split
  ·exact h
  ·exact h
theorem lsP_pt (c:Cu code) {p:DS} (h:ptB p.2):∀ k,ptB (lsP c p k).2
 | 0=>h
 | k+1=>stp_pt (lsP_pt c h k) (lsX_pt _ (lsP_pt c h k))
theorem lsL_pt (c:Cu code) {p:DS} (h:ptB p.2):∀ k,∀ x ∈ lsL c p k,ptB x.2
 | 0=>fun x hx=>by cases hx
 | k+1=>fun x hx=>by
  rw [lsL,List.mem_append,List.mem_singleton] at hx
  rcases hx with hx|rfl
  ·exact lsL_pt c h k x hx
  ·exact lsX_pt _ (lsP_pt c h k)
noncomputable def tdR (c:Cu code):List DV:=(pgD c 2 8).1
noncomputable def tdC (c:Cu code):Cu code:=(pgD c 2 8).2
noncomputable def tdS (c:Cu code):DS:=((tdC c).below 4,ptV ((tdC c).next.below 13,(tdC c).next.next.below 13))
noncomputable def tdN (c:Cu code):Nat:=((tdC c).next.next.next.below 4).toNat
noncomputable def tdL (c:Cu code):List DS:=lsL (tdC c).next.next.next.next (tdS c) (tdN c)
noncomputable def tdE (c:Cu code):Cu code:=lsC (tdC c).next.next.next.next (tdN c)
theorem tdS_pt (c:Cu code):ptB (tdS c).2:=by
 have h1:=(tdC c).next.below_rng (n:=13) (by decide)
 have h2:=(tdC c).next.next.below_rng (n:=13) (by decide)
 exact ⟨_,inB_of (by show -100<=_; omega) (by show _<=(100:Int); omega) (by show -100<=_; omega) (by show _<=(100:Int); omega),rfl⟩
set_option maxHeartbeats 4000000 in
theorem l27Draw_fn (hc:code.length<=1048576) (c:Cu code):Dr 31 c (tdE c) [] true ⟨tTour,(tdR c,tdS c,tdL c)⟩:=by
 have c0:=l06Draw_fn hc c 2 (by decide)
 have r1:=(tdC c).below_rng (n:=4) (by decide)
 have r2:=(tdC c).next.below_rng (n:=13) (by decide)
 have r3:=(tdC c).next.next.below_rng (n:=13) (by decide)
 have r4:=(tdC c).next.next.next.below_rng (n:=4) (by decide)
 have eN:(tdC c).next.next.next.below 4=(tdN c:Int):=by unfold tdN; omega
 have cp:=PointOfS_fn ((tdC c).next.below 13,(tdC c).next.next.below 13)
 have hpt:=tdS_pt c
 have es:tdS c=((tdC c).below 4,ptV ((tdC c).next.below 13,(tdC c).next.next.below 13)):=rfl
 have c1:=l01Below_fn hc (tdC c) 4 (by decide)
 have c2:=l01Below_fn hc (tdC c).next 13 (by decide)
 have c3:=l01Below_fn hc (tdC c).next.next 13 (by decide)
 have c4:=l01Below_fn hc (tdC c).next.next.next 4 (by decide)
 rw [eN] at c4
 unfold tdL tdE
 rw [show (pgD c 2 8).1=tdR c from rfl,show (pgD c 2 8).2=tdC c from rfl] at c0
 generalize tdR c=R at *
 generalize hp0:ptV ((tdC c).next.below 13,(tdC c).next.next.below 13)=p0 at *
 generalize (tdC c).below 4=h0 at *
 rw [es] at hpt ⊢
 generalize (tdC c).next.next.next.next=C at *
 generalize tdN c=N at *
 refine fnC_enter tabOK mixes Tryz.func31 rfl rfl _ Tryz.ntmps31 _ Tryz.results31 (by simp) (cz_ok hc _) (cz_one _) fun b u0 hwl hzs hwf=>?_
 try simp (maxSteps:=9^9) only[go_sem]
 repeat refine AI ?_
 refine CallW.c false (c0) ?_
 try simp (maxSteps:=9^9) only[go_sem]
 repeat refine AI ?_
 refine CallW.c false (c1) ?_
 try simp (maxSteps:=9^9) only[go_sem]
 repeat refine AI ?_
 refine CallW.c false (c2) ?_
 try simp (maxSteps:=9^9) only[go_sem]
 repeat refine AI ?_
 refine CallW.c false (c3) ?_
 try simp (maxSteps:=9^9) only[go_sem]
 repeat refine AI ?_
 repeat refine AI ?_
 refine cw cp ?_
 try simp (maxSteps:=9^9) only[go_sem]
 repeat refine AI ?_
 refine CallW.c false (c4) ?_
 try simp (maxSteps:=9^9) only[go_sem]
 obtain ⟨z,hz⟩:∃ z:Nat,z=0:=⟨0,rfl⟩
 refine LoopG.intro _ _ _ (fun k:Nat=>match k with|0=>⟨[(0,.ptr 0 0),(2,.ptr 1 0),(3,.ptr 7 0),(4,.ptr 8 0),(5,.sc (.int .i64 ((N:Int) - z)))],[(0,.bx (some b) (.fx u0 .u8 code :: (cz (lsC C z)).map fun z=>.sc z)),(1,.box [.sc (.slice none 0 0),.sc (.int .i64 0),.sc (.bool false),.sc (.slice none 0 0),.sc (.slice none 0 0),.sc (.bool false),.sc (.slice none 0 0),.sc (.slice none 0 0),.sc (.slice none 0 0)]),(2,.odat tVec R),(3,.odat .int p0.1.1.2),(4,.odat .int p0.1.2),(5,.odat .int p0.2.1.2),(6,.odat .int p0.2.2),(7,.box [.row 2 0,.sc (.int .i64 h0),.sc (.bool p0.1.1.1),.row 3 0,.row 4 0,.sc (.bool p0.2.1.1),.row 5 0,.row 6 0,.sc (.slice none 0 0)]),(8,.box [.sc (.int .i64 (lsP C (h0,p0) z).1),.sc (.bool (lsP C (h0,p0) z).2.1.1.1),.sl .int (lsP C (h0,p0) z).2.1.1.2,.sl .int (lsP C (h0,p0) z).2.1.2,.sc (.bool (lsP C (h0,p0) z).2.2.1.1),.sl .int (lsP C (h0,p0) z).2.2.1.2,.sl .int (lsP C (h0,p0) z).2.2.2])]⟩|k+1=>⟨[(0,.ptr 0 0),(2,.ptr 1 0),(3,.ptr 7 0),(4,.ptr 8 0),(5,.sc (.int .i64 ((N:Int) - (k+1:Nat))))],[(0,.bx (some b) (.fx u0 .u8 code :: (cz (lsC C (k+1))).map fun z=>.sc z)),(1,.box [.sc (.slice none 0 0),.sc (.int .i64 0),.sc (.bool false),.sc (.slice none 0 0),.sc (.slice none 0 0),.sc (.bool false),.sc (.slice none 0 0),.sc (.slice none 0 0),.sc (.slice none 0 0)]),(2,.odat tVec R),(3,.odat .int p0.1.1.2),(4,.odat .int p0.1.2),(5,.odat .int p0.2.1.2),(6,.odat .int p0.2.2),(7,.box [.row 2 0,.sc (.int .i64 h0),.sc (.bool p0.1.1.1),.row 3 0,.row 4 0,.sc (.bool p0.2.1.1),.row 5 0,.row 6 0,.row 9 0]),(8,.box [.sc (.int .i64 (lsP C (h0,p0) (k+1)).1),.sc (.bool (lsP C (h0,p0) (k+1)).2.1.1.1),.sl .int (lsP C (h0,p0) (k+1)).2.1.1.2,.sl .int (lsP C (h0,p0) (k+1)).2.1.2,.sc (.bool (lsP C (h0,p0) (k+1)).2.2.1.1),.sl .int (lsP C (h0,p0) (k+1)).2.2.1.2,.sl .int (lsP C (h0,p0) (k+1)).2.2.2]),(9,.row 63 tStep 0 true (lsL C (h0,p0) (k+1)))]⟩) (fun k=>k<=N) (fun k=>N - k) 0 ?_ (Nat.zero_le _) ?_
 ·dsimp only
  rw [show lsC C z=C by subst hz; rfl,show lsP C (h0,p0) z=(h0,p0) by subst hz; rfl]
  refine Wk.mk [] ?_
  try simp (maxSteps:=9^9) only[go_sem]
  try (and_intros<;>first|rfl|omega|exact ⟨_,rfl⟩)
  all_goals omega
 ·rintro k hk
  rcases k with _|k
  ·try simp (maxSteps:=9^9) only[go_sem]
   refine CondW_dec (fun hA=>?_) (fun hA=>?_)
   ·have c1:=l01Below_fn hc (lsC C z) 13 (by decide)
    have c2:=l01Below_fn hc (lsC C z).next 13 (by decide)
    have c3:=PointOfS_fn ((lsC C z).below 13,(lsC C z).next.below 13)
    have c4:=l01Once_fn hc (lsC C z).next.next 5 (by decide)
    have hpt:=lsP_pt C hpt z
    have hll:=lsL_len C (h0,p0) z
    have c5:=l05Copy_fn _ (ptB_ok hpt)
    have c6:=l01Pick_fn hc (lsC C z).next.next.next [1,-1] (by decide)
    by_cases hB:(lsC C z).next.next.below 5=0
    ·have ex:lsX (lsC C z) (lsP C (h0,p0) z)=(ni [1,-1] ((lsC C z).next.next.next.below 2).toNat,(lsP C (h0,p0) z).2):=if_pos hB
     have en:lsC C (z+1)=(lsC C z).next.next.next.next:=if_pos hB
     have c7:=l22After_fn (lsP C (h0,p0) z) (lsX (lsC C z) (lsP C (h0,p0) z))
     rw [show stp (lsP C (h0,p0) z) (lsX (lsC C z) (lsP C (h0,p0) z))=lsP C (h0,p0) (z+1) from rfl,ex] at c7
     have el:lsL C (h0,p0) (z+1)=lsL C (h0,p0) z++[(ni [1,-1] ((lsC C z).next.next.next.below 2).toNat,(lsP C (h0,p0) z).2)]:=by rw [<-ex]; rfl
     rw [decide_eq_true hB] at c4
     rw [show (([1,-1]:List Int).length:Int)=2 from rfl] at c6
     generalize ni [1,-1] ((lsC C z).next.next.next.below 2).toNat=r at *
     try simp (maxSteps:=9^9) only[go_sem]
     repeat refine AI ?_
     refine CallW.c false (c1) ?_
     try simp (maxSteps:=9^9) only[go_sem]
     repeat refine AI ?_
     refine CallW.c false (c2) ?_
     try simp (maxSteps:=9^9) only[go_sem]
     repeat refine AI ?_
     repeat refine AI ?_
     refine cw c3 ?_
     try simp (maxSteps:=9^9) only[go_sem]
     repeat refine AI ?_
     refine CallW.c false (c4) ?_
     try simp (maxSteps:=9^9) only[go_sem]
     repeat refine AI ?_
     refine CallW.c false (c6) ?_
     try simp (maxSteps:=9^9) only[go_sem]
     repeat refine AI ?_
     repeat refine AI ?_
     refine cw c5 ?_
     try simp (maxSteps:=9^9) only[go_sem]
     try simp (maxSteps:=9^9) only[go_sem,hll]
     repeat refine AI ?_
     refine CallW.q (c7) ?_
     try simp (maxSteps:=9^9) only[go_sem]
     repeat refine AI ?_
     refine LoopK.mk (0+1) ?_ (by omega) (by omega)
     dsimp only
     rw [show 0+1=z+1 by omega,en,el,show lsL C (h0,p0) z=[] by subst hz; rfl,List.nil_append]
     refine Wk.mk [(9,20)] ?_
     try simp (maxSteps:=9^9) only[go_sem]
     try (and_intros<;>first|rfl|omega|exact ⟨_,rfl⟩)
    ·have ex:lsX (lsC C z) (lsP C (h0,p0) z)=(0,ptV ((lsC C z).below 13,(lsC C z).next.below 13)):=if_neg hB
     have en:lsC C (z+1)=(lsC C z).next.next.next:=if_neg hB
     have c7:=l22After_fn (lsP C (h0,p0) z) (lsX (lsC C z) (lsP C (h0,p0) z))
     rw [show stp (lsP C (h0,p0) z) (lsX (lsC C z) (lsP C (h0,p0) z))=lsP C (h0,p0) (z+1) from rfl,ex] at c7
     have el:lsL C (h0,p0) (z+1)=lsL C (h0,p0) z++[(0,ptV ((lsC C z).below 13,(lsC C z).next.below 13))]:=by rw [<-ex]; rfl
     rw [decide_eq_false hB] at c4
     try simp (maxSteps:=9^9) only[go_sem]
     repeat refine AI ?_
     refine CallW.c false (c1) ?_
     try simp (maxSteps:=9^9) only[go_sem]
     repeat refine AI ?_
     refine CallW.c false (c2) ?_
     try simp (maxSteps:=9^9) only[go_sem]
     repeat refine AI ?_
     repeat refine AI ?_
     refine cw c3 ?_
     try simp (maxSteps:=9^9) only[go_sem]
     repeat refine AI ?_
     refine CallW.c false (c4) ?_
     try simp (maxSteps:=9^9) only[go_sem]
     repeat refine AI ?_
     refine CallW.q (c7) ?_
     try simp (maxSteps:=9^9) only[go_sem]
     repeat refine AI ?_
     refine LoopK.mk (0+1) ?_ (by omega) (by omega)
     dsimp only
     rw [show 0+1=z+1 by omega,en,el,show lsL C (h0,p0) z=[] by subst hz; rfl,List.nil_append]
     refine Wk.mk [(9,15)] ?_
     try simp (maxSteps:=9^9) only[go_sem]
     try (and_intros<;>first|rfl|omega|exact ⟨_,rfl⟩)
   ·have e:N=z:=by omega
    subst e
    rw [show lsL C (h0,p0) N=[] by rw [hz]; rfl]
    try simp (maxSteps:=9^9) only[go_sem]
    all_goals repeat refine AI ?_
    all_goals first|kernel_rfl|omega|rfl
  ·try simp (maxSteps:=9^9) only[go_sem]
   refine CondW_dec (fun hA=>?_) (fun hA=>?_)
   ·have c1:=l01Below_fn hc (lsC C (k+1)) 13 (by decide)
    have c2:=l01Below_fn hc (lsC C (k+1)).next 13 (by decide)
    have c3:=PointOfS_fn ((lsC C (k+1)).below 13,(lsC C (k+1)).next.below 13)
    have c4:=l01Once_fn hc (lsC C (k+1)).next.next 5 (by decide)
    have hpt:=lsP_pt C hpt (k+1)
    have hll:=lsL_len C (h0,p0) (k+1)
    have c5:=l05Copy_fn _ (ptB_ok hpt)
    have c6:=l01Pick_fn hc (lsC C (k+1)).next.next.next [1,-1] (by decide)
    by_cases hB:(lsC C (k+1)).next.next.below 5=0
    ·have ex:lsX (lsC C (k+1)) (lsP C (h0,p0) (k+1))=(ni [1,-1] ((lsC C (k+1)).next.next.next.below 2).toNat,(lsP C (h0,p0) (k+1)).2):=if_pos hB
     have en:lsC C (k+1+1)=(lsC C (k+1)).next.next.next.next:=if_pos hB
     have c7:=l22After_fn (lsP C (h0,p0) (k+1)) (lsX (lsC C (k+1)) (lsP C (h0,p0) (k+1)))
     rw [show stp (lsP C (h0,p0) (k+1)) (lsX (lsC C (k+1)) (lsP C (h0,p0) (k+1)))=lsP C (h0,p0) (k+1+1) from rfl,ex] at c7
     have el:lsL C (h0,p0) (k+1+1)=lsL C (h0,p0) (k+1)++[(ni [1,-1] ((lsC C (k+1)).next.next.next.below 2).toNat,(lsP C (h0,p0) (k+1)).2)]:=by rw [<-ex]; rfl
     rw [decide_eq_true hB] at c4
     rw [show (([1,-1]:List Int).length:Int)=2 from rfl] at c6
     generalize ni [1,-1] ((lsC C (k+1)).next.next.next.below 2).toNat=r at *
     try simp (maxSteps:=9^9) only[go_sem]
     repeat refine AI ?_
     refine CallW.c false (c1) ?_
     try simp (maxSteps:=9^9) only[go_sem]
     repeat refine AI ?_
     refine CallW.c false (c2) ?_
     try simp (maxSteps:=9^9) only[go_sem]
     repeat refine AI ?_
     repeat refine AI ?_
     refine cw c3 ?_
     try simp (maxSteps:=9^9) only[go_sem]
     repeat refine AI ?_
     refine CallW.c false (c4) ?_
     try simp (maxSteps:=9^9) only[go_sem]
     repeat refine AI ?_
     refine CallW.c false (c6) ?_
     try simp (maxSteps:=9^9) only[go_sem]
     repeat refine AI ?_
     repeat refine AI ?_
     refine cw c5 ?_
     try simp (maxSteps:=9^9) only[go_sem]
     try simp (maxSteps:=9^9) only[go_sem,hll]
     repeat refine AI ?_
     refine CallW.q (c7) ?_
     try simp (maxSteps:=9^9) only[go_sem]
     repeat refine AI ?_
     refine LoopK.mk (k+1+1) ?_ (by omega) (by omega)
     dsimp only
     rw [en,el]
     exact WK
    ·have ex:lsX (lsC C (k+1)) (lsP C (h0,p0) (k+1))=(0,ptV ((lsC C (k+1)).below 13,(lsC C (k+1)).next.below 13)):=if_neg hB
     have en:lsC C (k+1+1)=(lsC C (k+1)).next.next.next:=if_neg hB
     have c7:=l22After_fn (lsP C (h0,p0) (k+1)) (lsX (lsC C (k+1)) (lsP C (h0,p0) (k+1)))
     rw [show stp (lsP C (h0,p0) (k+1)) (lsX (lsC C (k+1)) (lsP C (h0,p0) (k+1)))=lsP C (h0,p0) (k+1+1) from rfl,ex] at c7
     have el:lsL C (h0,p0) (k+1+1)=lsL C (h0,p0) (k+1)++[(0,ptV ((lsC C (k+1)).below 13,(lsC C (k+1)).next.below 13))]:=by rw [<-ex]; rfl
     rw [decide_eq_false hB] at c4
     try simp (maxSteps:=9^9) only[go_sem]
     repeat refine AI ?_
     refine CallW.c false (c1) ?_
     try simp (maxSteps:=9^9) only[go_sem]
     repeat refine AI ?_
     refine CallW.c false (c2) ?_
     try simp (maxSteps:=9^9) only[go_sem]
     repeat refine AI ?_
     repeat refine AI ?_
     refine cw c3 ?_
     try simp (maxSteps:=9^9) only[go_sem]
     repeat refine AI ?_
     refine CallW.c false (c4) ?_
     try simp (maxSteps:=9^9) only[go_sem]
     repeat refine AI ?_
     refine CallW.q (c7) ?_
     try simp (maxSteps:=9^9) only[go_sem]
     repeat refine AI ?_
     refine LoopK.mk (k+1+1) ?_ (by omega) (by omega)
     dsimp only
     rw [en,el]
     exact WK
   ·have e:N=k+1:=by omega
    subst e
    try simp (maxSteps:=9^9) only[go_sem]
    all_goals repeat refine AI ?_
    all_goals first|kernel_rfl|omega|rfl
noncomputable def oneO:Option Rat:=some (((1:Int)):Rat)
noncomputable def zeroO:Option Rat:=some (((0:Int)):Rat)
theorem ratI_1:ratI 1=oD oneO:=ratI_eq 1
theorem ratI_z:ratI 0=oD zeroO:=ratI_eq 0
theorem ok_small {n:Int} (h:n.natAbs<=1000000):okO (some ((n:Int):Rat)):=by
 intro q hq; injection hq with hq; subst hq
 exact ⟨Nat.le_trans (nl_small (n:=n.natAbs) (by omega)) (by decide),Nat.le_trans (nl_small (n:=1) (by decide)) (by decide)⟩
theorem okO_one:okO oneO:=ok_small (by decide)
theorem okO_zero:okO zeroO:=ok_small (by decide)
theorem ratLt_as {p q:Rat} (h1:p < q):¬ q < p:=fun h=>absurd (Rat.le_of_lt h) (Rat.not_le.2 h1)
theorem minO_comm (x y:Option Rat):minO x y=minO y x:=by
 cases x with
 | none=>cases y<;>rfl
 | some p =>
  cases y with
  | none=>rfl
  | some q =>
   show (if cmpQ p q<=0 then some p else some q)=(if cmpQ q p<=0 then some q else some p)
   unfold cmpQ
   by_cases h1:p < q
   ·have h2:¬ q < p:=ratLt_as h1
    simp [h1,h2]
   ·by_cases h2:q < p
    ·simp [h1,h2]
    ·simp [h1,h2]
     exact Rat.le_antisymm (Rat.not_lt.1 h2) (Rat.not_lt.1 h1)
noncomputable def tD (p a b:DP):Option Rat:=minO oneO (maxO zeroO (divO (inD a p b) (sqD a b)))
noncomputable def nearD (a b:DP) (t:Option Rat):DP:=(oD (addO (rdO a.1) (mulO t (subO (rdO b.1) (rdO a.1)))),oD (addO (rdO a.2) (mulO t (subO (rdO b.2) (rdO a.2)))))
noncomputable def segD (p a b:DP):Option Rat:=if eqb a b then sqD p a else sqD p (nearD a b (tD p a b))
theorem okO_segD (p a b:DP):okO (segD p a b):=by unfold segD; split<;>exact okO_sqD _ _
theorem okO_tD (p a b:DP):okO (tD p a b):=okO_min okO_one (okO_max okO_zero (okO_div _ _))
theorem gP_near (a b:DP) (t:Option Rat):gP (nearD a b t):=gP_mk (okO_add _ _) (okO_add _ _)
set_option maxHeartbeats 1000000 in
theorem toSegment_fn (p a b:DP) (hp:gP p) (ha:gP a) (hb:gP b):Fn Tryz.prog 214 [⟨tPoint,p⟩,⟨tPoint,a⟩,⟨tPoint,b⟩] true [⟨tRat,oD (segD p a b)⟩]:=by
 have c0:=implSame_fn a b
 unfold segD
 cases h:eqb a b<;>rw [h] at c0
 ·rw [if_neg (by decide)]
  have c1:=inner_fn a p b ha hp hb
  have c2:=squareDistance_fn a b ha hb
  have c3:=ratDiv_fn (inD a p b) (sqD a b) (okO_inD _ _ _) (okO_sqD _ _)
  have c4:=ratInt_fn 1
  have c5:=ratInt_fn 0
  rw [ratI_1] at c4
  rw [ratI_z] at c5
  have c6:=ratMax_fn zeroO (divO (inD a p b) (sqD a b)) okO_zero (okO_div _ _)
  have c7:=ratMin_fn oneO (maxO zeroO (divO (inD a p b) (sqD a b))) okO_one (okO_max okO_zero (okO_div _ _))
  have e7:minO oneO (maxO zeroO (divO (inD a p b) (sqD a b)))=tD p a b:=rfl
  rw [e7] at c7
  have c8:=ratSub_fn (rdO b.1) (rdO a.1) (okO_rdO _) (okO_rdO _)
  have c9:=ratMul_fn (tD p a b) (subO (rdO b.1) (rdO a.1)) (okO_tD _ _ _) (okO_sub _ _)
  have c10:=ratAdd_fn (rdO a.1) (mulO (tD p a b) (subO (rdO b.1) (rdO a.1))) (okO_rdO _) (okO_mul _ _)
  have c11:=ratSub_fn (rdO b.2) (rdO a.2) (okO_rdO _) (okO_rdO _)
  have c12:=ratMul_fn (tD p a b) (subO (rdO b.2) (rdO a.2)) (okO_tD _ _ _) (okO_sub _ _)
  have c13:=ratAdd_fn (rdO a.2) (mulO (tD p a b) (subO (rdO b.2) (rdO a.2))) (okO_rdO _) (okO_mul _ _)
  rw [gP_1 ha,gP_1 hb] at c8
  rw [gP_1 ha] at c10
  rw [gP_2 ha,gP_2 hb] at c11
  rw [gP_2 ha] at c13
  have c14:=squareDistance_fn p (nearD a b (tD p a b)) hp (gP_near _ _ _)
  unfold nearD at c14 ⊢
  generalize tD p a b=t at c7 c9 c10 c12 c13 c14 ⊢
  generalize divO (inD a p b) (sqD a b)=dv at c3 c6 c7
  refine fe Tryz.func214 Tryz.ntmps214 Tryz.results214 fun hwf=>?_
  try simp (maxSteps:=9^9) only[go_sem]
  repeat refine AI ?_
  refine cw c0 ?_
  try simp (maxSteps:=9^9) only[go_sem]
  repeat refine AI ?_
  repeat refine AI ?_
  refine cw c1 ?_
  try simp (maxSteps:=9^9) only[go_sem]
  repeat refine AI ?_
  refine cw c2 ?_
  try simp (maxSteps:=9^9) only[go_sem]
  repeat refine AI ?_
  refine cw c3 ?_
  try simp (maxSteps:=9^9) only[go_sem]
  repeat refine AI ?_
  repeat refine AI ?_
  refine cw c4 ?_
  try simp (maxSteps:=9^9) only[go_sem]
  repeat refine AI ?_
  refine cw c5 ?_
  try simp (maxSteps:=9^9) only[go_sem]
  repeat refine AI ?_
  refine cw c6 ?_
  try simp (maxSteps:=9^9) only[go_sem]
  repeat refine AI ?_
  refine cw c7 ?_
  try simp (maxSteps:=9^9) only[go_sem]
  repeat refine AI ?_
  repeat refine AI ?_
  refine cw c8 ?_
  try simp (maxSteps:=9^9) only[go_sem]
  repeat refine AI ?_
  refine cw c9 ?_
  try simp (maxSteps:=9^9) only[go_sem]
  repeat refine AI ?_
  refine cw c10 ?_
  try simp (maxSteps:=9^9) only[go_sem]
  repeat refine AI ?_
  refine cw c11 ?_
  try simp (maxSteps:=9^9) only[go_sem]
  repeat refine AI ?_
  refine cw c12 ?_
  try simp (maxSteps:=9^9) only[go_sem]
  repeat refine AI ?_
  refine cw c13 ?_
  try simp (maxSteps:=9^9) only[go_sem]
  repeat refine AI ?_
  repeat refine AI ?_
  refine cw c14 ?_
  try simp (maxSteps:=9^9) only[go_sem]
  all_goals repeat refine AI ?_
  all_goals first|kernel_rfl|omega|rfl
 ·rw [if_pos rfl]
  have c1:=squareDistance_fn p a hp ha
  refine fe Tryz.func214 Tryz.ntmps214 Tryz.results214 fun hwf=>?_
  try simp (maxSteps:=9^9) only[go_sem]
  repeat refine AI ?_
  refine cw c0 ?_
  try simp (maxSteps:=9^9) only[go_sem]
  repeat refine AI ?_
  refine cw c1 ?_
  try simp (maxSteps:=9^9) only[go_sem]
  all_goals repeat refine AI ?_
  all_goals first|kernel_rfl|omega|rfl
theorem cmpQ_le {p q:Rat}:cmpQ p q<=0 ↔ p<=q:=by
 unfold cmpQ
 by_cases h1:p < q
 ·simp [h1,Rat.le_of_lt h1]
 ·by_cases h2:q < p
  ·simp [h1,h2]; exact Rat.not_le.2 h2
  ·simp [h1,h2]; exact Rat.not_lt.1 h2
theorem minO_le {p q:Rat} (h:p<=q):minO (some p) (some q)=some p:=by
 show (if cmpQ p q<=0 then some p else some q)=_
 rw [if_pos (cmpQ_le.2 h)]
theorem minO_ge {p q:Rat} (h:q<=p):minO (some p) (some q)=some q:=by rw [minO_comm,minO_le h]
theorem minO_self (x:Option Rat):minO x x=x:=by
 cases x with
 | none=>rfl
 | some p=>exact minO_le Rat.le_refl
theorem minO_nr (x:Option Rat):minO x none=none:=by cases x<;>rfl
theorem minO_assoc (x y z:Option Rat):minO (minO x y) z=minO x (minO y z):=by
 cases x with
 | none=>cases y<;>cases z<;>rfl
 | some p =>
  cases y with
  | none=>cases z<;>rfl
  | some q =>
   cases z with
   | none=>rw [minO_nr,minO_nr,minO_nr]
   | some r =>
    rcases Rat.le_total (a:=p) (b:=q) with h1|h1
    ·rw [minO_le h1]
     rcases Rat.le_total (a:=q) (b:=r) with h2|h2
     ·rw [minO_le h2,minO_le h1,minO_le (Rat.le_trans h1 h2)]
     ·rw [minO_ge h2]
    ·rw [minO_ge h1]
     rcases Rat.le_total (a:=q) (b:=r) with h2|h2
     ·rw [minO_le h2,minO_ge h1]
     ·rw [minO_ge h2,minO_ge (Rat.le_trans h2 h1)]
noncomputable def edO (l:List DV) (p:DP) (i:Nat):Option Rat:=segD p (ptV (nth (t:=tVec) l i)) (ptV (nth (t:=tVec) l (nxt l.length i).toNat))
noncomputable def leS (l:List DV) (p:DP):Nat->Option Rat
 | 0=>edO l p 0
 | i+1=>minO (leS l p i) (edO l p i)
noncomputable def leI (l:List DV) (p:DP):Nat->Option Rat
 | 0=>edO l p (l.length - 1)
 | i+1=>minO (leI l p i) (edO l p i)
theorem leI_S (l:List DV) (p:DP):∀ i,leI l p (i+1)=minO (edO l p (l.length - 1)) (leS l p (i+1))
 | 0=>by show minO (edO l p (l.length - 1)) (edO l p 0)=minO _ (minO (edO l p 0) (edO l p 0)); rw [minO_self]
 | i+1=>by
  show minO (leI l p (i+1)) _=minO _ (minO (leS l p (i+1)) _)
  rw [leI_S l p i,minO_assoc]
theorem leI_all {l:List DV} (p:DP) (h:2<=l.length):leI l p (l.length - 1)=leS l p l.length:=by
 obtain ⟨n,hn⟩:∃ n,l.length=n+2:=⟨l.length - 2,by omega⟩
 have:=leI_S l p n
 rw [show l.length - 1=n+1 by omega,this,hn]
 show minO _ _=minO (leS l p (n+1)) (edO l p (n+1))
 rw [minO_comm,show n+2 - 1=n+1 by omega]
theorem okO_edO (l:List DV) (p:DP) (i:Nat):okO (edO l p i):=okO_segD _ _ _
theorem okO_leS (l:List DV) (p:DP):∀ i,okO (leS l p i)
 | 0=>okO_edO _ _ _
 | i+1=>okO_min (okO_leS l p i) (okO_edO _ _ _)
theorem okO_leI (l:List DV) (p:DP):∀ i,okO (leI l p i)
 | 0=>okO_edO _ _ _
 | i+1=>okO_min (okO_leI l p i) (okO_edO _ _ _)
noncomputable def tpD (l:List DV) (p:DP):Option Rat:=if 0<=cntI l p l.length then zeroO else leS l p l.length
theorem okO_tpD (l:List DV) (p:DP):okO (tpD l p):=by
 unfold tpD; split
 ·exact okO_zero
 ·exact okO_leS _ _ _
set_option maxHeartbeats 1000000 in
theorem toPolygon_fn (l:List DV) (p:DP) (hl:polyP l) (hp:okPt p=true):Fn Tryz.prog 173 [⟨.slice tVec,l⟩,⟨tPoint,p⟩] false [⟨tRat,oD (tpD l p)⟩]:=by
 have h3:3<=l.length:=by have:=hl.1.1; omega
 have hn:l.length<=1048576:=by have:=hl.1.2; omega
 have c1:=contains_fn l p hl.2.1 hn hp
 have c3:=pointsOf_fn l hn
 have hml:(l.map ptV).length=l.length:=List.length_map ..
 have ptok:∀ i,i < l.length->okPt (ptV (nth (t:=tVec) l i))=true:=fun i hi=>okPt_ptV (hl.2.1 _ (nth_mem hi))
 by_cases h0:0<=cntI l p l.length
 ·have d1:=decide_eq_true (p:=cntI l p l.length ≥ 0) h0
  have c2:=ratInt_fn 0
  rw [ratI_z] at c2
  rw [show tpD l p=zeroO from if_pos h0]
  refine fe Tryz.func173 Tryz.ntmps173 Tryz.results173 fun hwf=>?_
  try simp (maxSteps:=9^9) only[go_sem]
  repeat refine AI ?_
  refine cw c1 ?_
  try simp (maxSteps:=9^9) only[go_sem]
  try simp (maxSteps:=9^9) only[go_sem,d1]
  repeat refine AI ?_
  refine cw c2 ?_
  try simp (maxSteps:=9^9) only[go_sem]
  all_goals repeat refine AI ?_
  all_goals first|kernel_rfl|omega|rfl
 ·have d1:=decide_eq_false (p:=cntI l p l.length ≥ 0) h0
  rw [show tpD l p=leS l p l.length from if_neg h0,<-leI_all p (by omega)]
  have s0:=toSegment_fn p (ptV (nth (t:=tVec) l (l.length - 1))) (ptV (nth (t:=tVec) l 0)) (gP_ok hp) (gP_ok (ptok _ (by omega))) (gP_ok (ptok _ (by omega)))
  have e0:segD p (ptV (nth (t:=tVec) l (l.length - 1))) (ptV (nth (t:=tVec) l 0))=leI l p 0:=by
   show _=edO l p (l.length - 1)
   unfold edO
   rw [nxt_end (by omega)]
  rw [e0,<-nth_ptV (by omega),<-nth_ptV (by omega)] at s0
  have ei:((l.length:Int) - 1).toNat=l.length - 1:=by omega
  rw [<-ei] at s0
  refine fe Tryz.func173 Tryz.ntmps173 Tryz.results173 fun hwf=>?_
  try simp (maxSteps:=9^9) only[go_sem]
  repeat refine AI ?_
  refine cw c1 ?_
  try simp (maxSteps:=9^9) only[go_sem]
  try simp (maxSteps:=9^9) only[go_sem,d1]
  repeat refine AI ?_
  refine cw c3 ?_
  try simp (maxSteps:=9^9) only[go_sem]
  try simp (maxSteps:=9^9) only[go_sem,hml]
  repeat refine AI ?_
  repeat refine AI ?_
  refine cw s0 ?_
  try simp (maxSteps:=9^9) only[go_sem]
  repeat refine AI ?_
  refine LoopG.intro _ _ _ (fun i:Nat=>⟨[(3,.ptr 0 0),(4,.ptr 1 0),(5,.sl tPoint (l.map ptV)),(6,.ptr 2 0),(7,.sc (.int .i64 (i+1)))],[(2,.box (cel tRat (oD (leI l p i)))),(1,.box (cel tRat (oD none))),(0,.box (cel tPoint p))]⟩) (fun i=>i+1<=l.length) (fun i=>l.length - i) 0 ?_ (by omega) ?_
  ·refine Wk.mk [(2,5)] ?_
   try simp (maxSteps:=9^9) only[go_sem]
   try (and_intros<;>first|rfl|omega|exact ⟨_,rfl⟩)
  ·rintro i hi
   try simp (maxSteps:=9^9) only[go_sem,hml]
   refine CondW_dec (fun hA=>?_) (fun hA=>?_)
   ·have hlt:i+1 < l.length:=by omega
    have s1:=toSegment_fn p (ptV (nth (t:=tVec) l i)) (ptV (nth (t:=tVec) l (i+1))) (gP_ok hp) (gP_ok (ptok _ (by omega))) (gP_ok (ptok _ (by omega)))
    have e1:segD p (ptV (nth (t:=tVec) l i)) (ptV (nth (t:=tVec) l (i+1)))=edO l p i:=by
     unfold edO
     rw [nxt_lt (by omega)]
    rw [e1,<-nth_ptV (by omega),<-nth_ptV (by omega)] at s1
    have s2:=ratMin_fn (leI l p i) (edO l p i) (okO_leI _ _ _) (okO_edO _ _ _)
    have hst:leI l p (i+1)=minO (leI l p i) (edO l p i):=rfl
    have q1:((i:Int)+1 - 1).toNat=i:=by omega
    have q2:((i:Int)+1).toNat=i+1:=by omega
    try simp (maxSteps:=9^9) only[go_sem]
    repeat refine AI ?_
    rw [q1,q2]
    repeat refine AI ?_
    refine cw s1 ?_
    try simp (maxSteps:=9^9) only[go_sem]
    repeat refine AI ?_
    refine cw s2 ?_
    try simp (maxSteps:=9^9) only[go_sem]
    repeat refine AI ?_
    refine LoopK.mk (i+1) ?_ (by omega) (by omega)
    rw [hst]
    exact WK
   ·rw [show l.length - 1=i by omega]
    try simp (maxSteps:=9^9) only[go_sem]
    all_goals repeat refine AI ?_
    all_goals first|kernel_rfl|omega|rfl
noncomputable def stpD (l:List DV) (p:DP):Option Rat:=if okPt p then tpD l p else none
noncomputable def discB (l:List DV) (p:DP) (n:Int):Bool:=(stpD l p).isSome && decide (cmpO (stpD l p) (some ((n:Int):Rat))<=0)
theorem DiscTouchesI_fn (l:List DV) (p:DP) (n:Int) (hl:polyP l) (hn:0<=n/\n<=1000000):Fn Tryz.prog 139 [⟨.slice tVec,l⟩,⟨tPoint,p⟩,⟨.int,n⟩] false [⟨.bool,discB l p n⟩]:=by
 have c0:=implIsPolygon_fn l
 rw [polyB_t hl] at c0
 have c1:=arePoints1_fn p
 have d1:=decide_eq_false (p:=n < 0) (by omega)
 unfold discB stpD
 cases h:okPt p<;>rw [h] at c1
 ·rw [if_neg (by decide)]
  refine fe Tryz.func139 Tryz.ntmps139 Tryz.results139 fun hwf=>?_
  try simp (maxSteps:=9^9) only[go_sem]
  repeat refine AI ?_
  refine cw c0 ?_
  try simp (maxSteps:=9^9) only[go_sem]
  repeat refine AI ?_
  refine cw c1 ?_
  try simp (maxSteps:=9^9) only[go_sem]
  all_goals repeat refine AI ?_
  all_goals first|kernel_rfl|omega|rfl
 ·rw [if_pos rfl]
  have c2:=toPolygon_fn l p hl h
  have c3:=isGood_fn (tpD l p)
  have c4:=ratInt_fn n
  rw [show ratI n=oD (some ((n:Int):Rat)) from ratI_eq n] at c4
  have c5:=ratCmp_fn (tpD l p) (some ((n:Int):Rat)) (okO_tpD _ _) (ok_small (by omega))
  cases hs:(tpD l p).isSome<;>rw [hs] at c3
  ·refine fe Tryz.func139 Tryz.ntmps139 Tryz.results139 fun hwf=>?_
   try simp (maxSteps:=9^9) only[go_sem]
   repeat refine AI ?_
   refine cw c0 ?_
   try simp (maxSteps:=9^9) only[go_sem]
   repeat refine AI ?_
   refine cw c1 ?_
   try simp (maxSteps:=9^9) only[go_sem]
   try simp (maxSteps:=9^9) only[go_sem,d1]
   repeat refine AI ?_
   refine cw c2 ?_
   try simp (maxSteps:=9^9) only[go_sem]
   repeat refine AI ?_
   repeat refine AI ?_
   refine cw c3 ?_
   try simp (maxSteps:=9^9) only[go_sem]
   all_goals repeat refine AI ?_
   all_goals first|kernel_rfl|omega|rfl
  ·refine fe Tryz.func139 Tryz.ntmps139 Tryz.results139 fun hwf=>?_
   try simp (maxSteps:=9^9) only[go_sem]
   repeat refine AI ?_
   refine cw c0 ?_
   try simp (maxSteps:=9^9) only[go_sem]
   repeat refine AI ?_
   refine cw c1 ?_
   try simp (maxSteps:=9^9) only[go_sem]
   try simp (maxSteps:=9^9) only[go_sem,d1]
   repeat refine AI ?_
   refine cw c2 ?_
   try simp (maxSteps:=9^9) only[go_sem]
   repeat refine AI ?_
   repeat refine AI ?_
   refine cw c3 ?_
   try simp (maxSteps:=9^9) only[go_sem]
   repeat refine AI ?_
   refine cw c4 ?_
   try simp (maxSteps:=9^9) only[go_sem]
   repeat refine AI ?_
   refine cw c5 ?_
   try simp (maxSteps:=9^9) only[go_sem]
   all_goals repeat refine AI ?_
   all_goals first|kernel_rfl|omega|rfl
def rchI (l:List DV):Nat->Int
 | 0=>0
 | i+1=>max (rchI l i) ((nth (t:=tVec) l i).1 * (nth (t:=tVec) l i).1+(nth (t:=tVec) l i).2 * (nth (t:=tVec) l i).2)
theorem sqI_le {k x:Int} (h1:-k<=x) (h2:x<=k):x * x<=k * k:=by
 rcases Int.le_total 0 x with h|h
 ·exact Int.mul_le_mul h2 h2 h (by omega)
 ·have:=Int.mul_le_mul (show -x<=k by omega) (show -x<=k by omega) (by omega) (by omega)
  rwa [Int.neg_mul_neg] at this
theorem ReachSquareI_fn (l:List DV) (hl:polyP l):Fn Tryz.prog 140 [⟨.slice tVec,l⟩] false [⟨.int,rchI l l.length⟩]:=by
 have c0:=implIsPolygon_fn l
 rw [polyB_t hl] at c0
 have hn:=hl.1.2
 refine fe Tryz.func140 Tryz.ntmps140 Tryz.results140 fun hwf=>?_
 try simp (maxSteps:=9^9) only[go_sem]
 repeat refine AI ?_
 refine cw c0 ?_
 try simp (maxSteps:=9^9) only[go_sem]
 refine LoopG.intro _ _ _ (fun i:Nat=>⟨[(3,.sc (.int .i64 (rchI l i))),(9,.sl tVec l),(10,.sc (.int .i64 l.length)),(11,.sc (.int .i64 i))],[]⟩) (fun i=>i<=l.length) (fun i=>l.length - i) 0 ?_ (Nat.zero_le _) ?_
 ·exact WK
 ·rintro i hi
  try simp (maxSteps:=9^9) only[go_sem]
  refine CondW_dec (fun hA=>?_) (fun hA=>?_)
  ·have hlt:i < l.length:=by omega
   obtain ⟨b1,b2,b3,b4⟩:=okV_b (hl.2.1 _ (nth_mem hlt))
   have s1:=sqI_le b1 b2
   have s2:=sqI_le b3 b4
   have n1:=sq_nn (nth (t:=tVec) l i).1
   have n2:=sq_nn (nth (t:=tVec) l i).2
   have hst:rchI l (i+1)=max (rchI l i) ((nth (t:=tVec) l i).1 * (nth (t:=tVec) l i).1+(nth (t:=tVec) l i).2 * (nth (t:=tVec) l i).2):=rfl
   try simp (maxSteps:=9^9) only[go_sem]
   repeat refine AI ?_
   refine LoopK.mk (i+1) ?_ (by omega) (by omega)
   rw [hst]
   exact WK
  ·rw [show l.length=i by omega]
   try simp (maxSteps:=9^9) only[go_sem]
   all_goals repeat refine AI ?_
   all_goals first|kernel_rfl|omega|rfl
end Go.Proofs.YtbnkojgcbmfloaaGreat.DW
