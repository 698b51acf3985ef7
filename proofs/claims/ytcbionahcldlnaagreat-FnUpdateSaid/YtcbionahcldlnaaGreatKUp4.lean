/-
  Texts of a proof, one behind another: Dw23, Dw24, Hl1, Dw40, LwA, Ints, Own, Copy, PtOr, Dw19, Dw41, Dw47, ArIn, Dw25, Same, Sz, To, Eq, Mark, Held, LwH, Dw26, Dw48, BtsR, Dw150, Dw152, Rw1, Drn, Rw2, Rw3, So4, Dw153, Dw157, Dw155, Dw156, Dw162, Dw171, So5, Rw5, Rw4, Dw158, So3, Sp1, Dw159, Dw42.
-/
import Derived.Deep.AppendLies
import Derived.Test.YtcbionahcldlnaaGreatProg
import Derived.Deep.RegionHeld3
import Derived.Deep.RegionLaw
import Derived.Shelf.GgSortFunc.InsertionK
import Derived.Lone
import Derived.StepT
import Derived.Calls
import Derived.Shelf.SlSortCmp.InsertionK
import Derived.Lib.QuietBelow
import Derived.Shelf.SlSortCmp.NoneTotal
import Derived.Shelf.SlLaysF0
import Derived.Shelf.Sort.Plain
import Derived.Shelf.Slices.CompactI
import Derived.Shelf.Slices.In.SortNone
import Derived.Shelf.SlSortCmp.QuietGrown
import Derived.Shelf.RegionOpenPlain
import Derived.WalkKit
import Derived.Deep.LoopGhost
import Derived.Deep.Draws
import Derived.Lib.Walk
import Derived.Sort.WalkB12
import Derived.Lib.SliceRun
import Derived.Test.YtcbionahcldlnaaGreatKUp3
set_option linter.all false
set_option maxRecDepth 100000
namespace Go.Proofs.YtcbionahcldlnaaGreat.DW
open Go.RowKit
abbrev DV:Type:=Int × Int
def inB (k:Int) (v:DV):Bool:=decide (-k<=v.1/\v.1<=k) && decide (-k<=v.2/\v.2<=k)
def okV (v:DV):Bool:=inB 1000 v
theorem okV_b {v:DV} (h:okV v=true):-1000<=v.1/\v.1<=1000/\-1000<=v.2/\v.2<=1000:=by
 unfold okV inB at h
 rw [Bool.and_eq_true,decide_eq_true_iff,decide_eq_true_iff] at h
 omega
theorem isVec_fn (v:DV):Fn Tryz.prog 59 [⟨tVec,v⟩] false [⟨.bool,okV v⟩]:=by
 have c1:=within_fn v.1 (-1000) 1000
 have c2:=within_fn v.2 (-1000) 1000
 unfold okV inB
 cases h:decide (-1000<=v.1/\v.1<=1000)<;>rw [h] at c1
 ·refine fe Tryz.func59 Tryz.ntmps59 Tryz.results59 fun hwf=>?_
  try simp (maxSteps:=9^9) only[go_sem]
  repeat refine AI ?_
  refine cw c1 ?_
  try simp (maxSteps:=9^9) only[go_sem]
 ·refine fe Tryz.func59 Tryz.ntmps59 Tryz.results59 fun hwf=>?_
  try simp (maxSteps:=9^9) only[go_sem]
  repeat refine AI ?_
  refine cw c1 ?_
  try simp (maxSteps:=9^9) only[go_sem]
  repeat refine AI ?_
  refine cw c2 ?_
  try simp (maxSteps:=9^9) only[go_sem]
theorem IsValidVec_fn (v:DV):Fn Tryz.prog 76 [⟨tVec,v⟩] false [⟨.bool,okV v⟩]:=by
 have c1:=l01In_fn v.1 (-1000) 1000
 have c2:=l01In_fn v.2 (-1000) 1000
 unfold okV inB
 cases h:decide (-1000<=v.1/\v.1<=1000)<;>rw [h] at c1
 ·refine fe Tryz.func76 Tryz.ntmps76 Tryz.results76 fun hwf=>?_
  try simp (maxSteps:=9^9) only[go_sem]
  repeat refine AI ?_
  refine cw c1 ?_
  try simp (maxSteps:=9^9) only[go_sem]
 ·refine fe Tryz.func76 Tryz.ntmps76 Tryz.results76 fun hwf=>?_
  try simp (maxSteps:=9^9) only[go_sem]
  repeat refine AI ?_
  refine cw c1 ?_
  try simp (maxSteps:=9^9) only[go_sem]
  repeat refine AI ?_
  refine cw c2 ?_
  try simp (maxSteps:=9^9) only[go_sem]
theorem mul_bd {x y:Int} (h1:-2000<=x) (h2:x<=2000) (h3:-2000<=y) (h4:y<=2000):-4000000<=x * y/\x * y<=4000000:=by
 have e1:0<=(2000 - x) * (2000 - y):=Int.mul_nonneg (by omega) (by omega)
 have e2:0<=(2000+x) * (2000+y):=Int.mul_nonneg (by omega) (by omega)
 have e3:0<=(2000 - x) * (2000+y):=Int.mul_nonneg (by omega) (by omega)
 have e4:0<=(2000+x) * (2000 - y):=Int.mul_nonneg (by omega) (by omega)
 simp only [Int.sub_mul,Int.add_mul,Int.mul_sub,Int.mul_add] at e1 e2 e3 e4
 omega
def trn (a b c:DV):Int:=(b.1 - a.1) * (c.2 - a.2) - (b.2 - a.2) * (c.1 - a.1)
theorem turn_fn (a b c:DV) (ha:okV a=true) (hb:okV b=true) (hc:okV c=true):Fn Tryz.prog 118 [⟨tVec,a⟩,⟨tVec,b⟩,⟨tVec,c⟩] false [⟨.int,trn a b c⟩]:=by
 have ha:=okV_b ha; have hb:=okV_b hb; have hc:=okV_b hc
 have m1:=mul_bd (x:=b.1 - a.1) (y:=c.2 - a.2) (by omega) (by omega) (by omega) (by omega)
 have m2:=mul_bd (x:=b.2 - a.2) (y:=c.1 - a.1) (by omega) (by omega) (by omega) (by omega)
 unfold trn
 refine fe Tryz.func118 Tryz.ntmps118 Tryz.results118 fun hwf=>?_
 try simp (maxSteps:=9^9) only[go_sem]
 all_goals repeat refine AI ?_
 all_goals first|kernel_rfl|omega|rfl
def trq (a b c:DV):Int:=if okV a && okV b && okV c then trn a b c else 0
theorem Turn_fn (a b c:DV):Fn Tryz.prog 116 [⟨tVec,a⟩,⟨tVec,b⟩,⟨tVec,c⟩] false [⟨.int,trq a b c⟩]:=by
 have c1:=IsValidVec_fn a
 have c2:=IsValidVec_fn b
 have c3:=IsValidVec_fn c
 unfold trq
 cases ha:okV a<;>rw [ha] at c1
 ·refine fe Tryz.func116 Tryz.ntmps116 Tryz.results116 fun hwf=>?_
  try simp (maxSteps:=9^9) only[go_sem]
  repeat refine AI ?_
  refine cw c1 ?_
  try simp (maxSteps:=9^9) only[go_sem]
 ·cases hb:okV b<;>rw [hb] at c2
  ·refine fe Tryz.func116 Tryz.ntmps116 Tryz.results116 fun hwf=>?_
   try simp (maxSteps:=9^9) only[go_sem]
   repeat refine AI ?_
   refine cw c1 ?_
   try simp (maxSteps:=9^9) only[go_sem]
   repeat refine AI ?_
   refine cw c2 ?_
   try simp (maxSteps:=9^9) only[go_sem]
  ·cases hc:okV c<;>rw [hc] at c3
   ·refine fe Tryz.func116 Tryz.ntmps116 Tryz.results116 fun hwf=>?_
    try simp (maxSteps:=9^9) only[go_sem]
    repeat refine AI ?_
    refine cw c1 ?_
    try simp (maxSteps:=9^9) only[go_sem]
    repeat refine AI ?_
    refine cw c2 ?_
    try simp (maxSteps:=9^9) only[go_sem]
    repeat refine AI ?_
    refine cw c3 ?_
    try simp (maxSteps:=9^9) only[go_sem]
   ·have ha:=okV_b ha; have hb:=okV_b hb; have hc:=okV_b hc
    have m1:=mul_bd (x:=b.1 - a.1) (y:=c.2 - a.2) (by omega) (by omega) (by omega) (by omega)
    have m2:=mul_bd (x:=b.2 - a.2) (y:=c.1 - a.1) (by omega) (by omega) (by omega) (by omega)
    unfold trn
    refine fe Tryz.func116 Tryz.ntmps116 Tryz.results116 fun hwf=>?_
    try simp (maxSteps:=9^9) only[go_sem]
    repeat refine AI ?_
    refine cw c1 ?_
    try simp (maxSteps:=9^9) only[go_sem]
    repeat refine AI ?_
    refine cw c2 ?_
    try simp (maxSteps:=9^9) only[go_sem]
    repeat refine AI ?_
    refine cw c3 ?_
    try simp (maxSteps:=9^9) only[go_sem]
    all_goals repeat refine AI ?_
    all_goals first|kernel_rfl|omega|rfl
theorem indexFunc_vec_fn (F:FuncId) (p:DV->Bool) (hF:∀ x:DV,Fn Tryz.prog F [⟨tVec,x⟩] false [⟨.bool,p x⟩]) (l:List DV):Fn Tryz.prog 117 [⟨.slice tVec,l⟩,⟨.cst (.fn F),()⟩] false [⟨.int,ixf (t:=tVec) p l⟩]:=by
 refine fe Tryz.func117 Tryz.ntmps117 Tryz.results117 fun hwf=>?_
 have hl:l.length<=9223372036854775807:=(hwf ⟨.slice tVec,l⟩ (by simp)).1
 try simp (maxSteps:=9^9) only[go_sem]
 refine LoopG.intro _ _ _ (fun i:Nat=>⟨[(0,.sl tVec l),(1,.sc (.func (.func F) #[] #[])),(7,.sc (.int .i64 l.length)),(8,.sc (.int .i64 i))],[]⟩) (fun i=>∀ j < i,j < l.length->p (nth (t:=tVec) l j)=false) (fun i=>l.length - i) 0 ?_ (fun j h=>by simp at h) ?_
 ·exact WK
 ·rintro i h2
  try simp (maxSteps:=9^9) only[go_sem]
  refine CondW_dec (fun h3=>?_) (fun h3=>?_)
  ·try simp (maxSteps:=9^9) only[go_sem]
   repeat refine AI ?_
   repeat refine AI ?_
   refine cw (hF (nth (t:=tVec) l i)) ?_
   try simp (maxSteps:=9^9) only[go_sem]
   refine CondW_b (fun h4=>?_) (fun h4=>?_)
   ·try simp (maxSteps:=9^9) only[go_sem]
    exact (ixf_at (by omega) h4 (fun j hj=>h2 j hj (by omega))).symm
   ·try simp (maxSteps:=9^9) only[go_sem]
    repeat refine AI ?_
    refine LoopK.mk (i+1) ?_ (fun j hj hl=>?_) (by omega)
    ·exact WK
    ·by_cases hj2:j < i
     ·exact h2 j hj2 hl
     ·rw [show j=i by omega]; exact h4
  ·try simp (maxSteps:=9^9) only[go_sem]
   exact (ixf_none fun j hj=>h2 j (by omega) hj).symm
theorem containsFunc_vec_fn (F:FuncId) (p:DV->Bool) (hF:∀ x:DV,Fn Tryz.prog F [⟨tVec,x⟩] false [⟨.bool,p x⟩]) (l:List DV):Fn Tryz.prog 77 [⟨.slice tVec,l⟩,⟨.cst (.fn F),()⟩] false [⟨.bool,l.any p⟩]:=by
 refine fe Tryz.func77 Tryz.ntmps77 Tryz.results77 fun hwf=>?_
 try simp (maxSteps:=9^9) only[go_sem]
 repeat refine AI ?_
 refine cw (indexFunc_vec_fn F p hF l) ?_
 try simp (maxSteps:=9^9) only[go_sem]
 exact ixf_any
theorem areVecsC_fn (v:DV):Fn Tryz.prog 109 [⟨tVec,v⟩] false [⟨.bool,!okV v⟩]:=by
 refine fe Tryz.func109 Tryz.ntmps109 Tryz.results109 fun hwf=>?_
 try simp (maxSteps:=9^9) only[go_sem]
 repeat refine AI ?_
 refine cw (isVec_fn v) ?_
 try simp (maxSteps:=9^9) only[go_sem]
theorem areVecs_fn (l:List DV):Fn Tryz.prog 60 [⟨.slice tVec,l⟩] false [⟨.bool,!(l.any fun v=>!okV v)⟩]:=by
 refine fe Tryz.func60 Tryz.ntmps60 Tryz.results60 fun hwf=>?_
 try simp (maxSteps:=9^9) only[go_sem]
 repeat refine AI ?_
 refine cw (containsFunc_vec_fn _ _ areVecsC_fn l) ?_
 try simp (maxSteps:=9^9) only[go_sem]
def nxt (n i:Nat):Int:=((i:Int)+1) % (n:Int)
def cornOK (l:List DV) (i k:Nat):Prop:=¬ (k:Int)=i->¬ (k:Int)=nxt l.length i->0 < trn (nth (t:=tVec) l i) (nth (t:=tVec) l (nxt l.length i).toNat) (nth (t:=tVec) l k)
def polyP (l:List DV):Prop:=(3<=(l.length:Int)/\(l.length:Int)<=16)/\(∀ v ∈ l,okV v=true)/\∀ i k,i < l.length->k < l.length->cornOK l i k
noncomputable def polyB (l:List DV):Bool:=@decide (polyP l) (Classical.propDecidable _)
theorem polyB_t {l:List DV} (h:polyP l):polyB l=true:=@decide_eq_true _ (Classical.propDecidable _) h
theorem polyB_f {l:List DV} (h:¬ polyP l):polyB l=false:=@decide_eq_false _ (Classical.propDecidable _) h
theorem any_okV {l:List DV} (h:(l.any fun v=>!okV v)=false):∀ v ∈ l,okV v=true:=by
 intro v hv
 rw [List.any_eq_false] at h
 simpa using h v hv
theorem nxt_rng {n i:Nat} (h:0 < n):0<=nxt n i/\nxt n i < n:=⟨Int.emod_nonneg _ (by omega),Int.emod_lt_of_pos _ (by omega)⟩
theorem nth_mem {l:List DV} {i:Nat} (h:i < l.length):nth (t:=tVec) l i ∈ l:=by rw [nth_lt h]; exact List.getElem_mem h
theorem implIsPolygon_fn (l:List DV):Fn Tryz.prog 79 [⟨.slice tVec,l⟩] false [⟨.bool,polyB l⟩]:=by
 have c1:=within_fn l.length 3 16
 have c2:=areVecs_fn l
 by_cases h1:3<=(l.length:Int)/\(l.length:Int)<=16
 ·rw [decide_eq_true h1] at c1
  cases h2:l.any fun v=>!okV v<;>rw [h2] at c2
  ·have hok:=any_okV h2
   have hN:0 < l.length:=by omega
   refine fe Tryz.func79 Tryz.ntmps79 Tryz.results79 fun hwf=>?_
   try simp (maxSteps:=9^9) only[go_sem]
   repeat refine AI ?_
   refine cw c1 ?_
   try simp (maxSteps:=9^9) only[go_sem]
   repeat refine AI ?_
   refine cw c2 ?_
   try simp (maxSteps:=9^9) only[go_sem]
   refine LoopG.intro _ _ _ (fun i:Nat=>⟨[(0,.sl tVec l),(3,.sc (.int .i64 l.length)),(19,.sl tVec l),(20,.sc (.int .i64 l.length)),(21,.sc (.int .i64 i))],[]⟩) (fun i=>∀ i' k,i' < i->i' < l.length->k < l.length->cornOK l i' k) (fun i=>l.length - i) 0 ?_ (fun i' k h=>absurd h (Nat.not_lt_zero _)) ?_
   ·exact WK
   ·rintro i hi
    have hr:=nxt_rng (i:=i) hN
    unfold nxt at hr
    try simp (maxSteps:=9^9) only[go_sem]
    refine CondW_dec (fun hA=>?_) (fun hA=>?_)
    ·try simp (maxSteps:=9^9) only[go_sem]
     repeat refine AI ?_
     refine RemW.pos (by omega) (by omega) ?_
     try simp (maxSteps:=9^9) only[go_sem]
     repeat refine AI ?_
     refine LoopG.intro _ _ _ (fun k:Nat=>⟨[(0,.sl tVec l),(3,.sc (.int .i64 l.length)),(19,.sl tVec l),(20,.sc (.int .i64 l.length)),(21,.sc (.int .i64 i)),(4,.sc (.int .i64 i)),(5,.ptr 0 0),(6,.ptr 1 0),(33,.sl tVec l),(34,.sc (.int .i64 l.length)),(35,.sc (.int .i64 k))],[(1,.box [.sc (.int .i64 (nth (t:=tVec) l (nxt l.length i).toNat).1),.sc (.int .i64 (nth (t:=tVec) l (nxt l.length i).toNat).2)]),(0,.box [.sc (.int .i64 (nth (t:=tVec) l i).1),.sc (.int .i64 (nth (t:=tVec) l i).2)])]⟩) (fun k=>∀ k',k' < k->k' < l.length->cornOK l i k') (fun k=>l.length - k) 0 ?_ (fun k h=>absurd h (Nat.not_lt_zero _)) ?_
     ·exact WK
     ·rintro k hk
      have hv:=turn_fn (nth (t:=tVec) l i) (nth (t:=tVec) l (nxt l.length i).toNat) (nth (t:=tVec) l k)
      have hi3:i < l.length:=by omega
      have oi:=hok _ (nth_mem hi3)
      have on:=hok _ (nth_mem (l:=l) (i:=(nxt l.length i).toNat) (by unfold nxt; omega))
      try simp (maxSteps:=9^9) only[go_sem]
      refine CondW_dec (fun hB=>?_) (fun hB=>?_)
      ·have hv:=hv oi on (hok _ (nth_mem (by omega)))
       have hgo:cornOK l i k->∀ k',k' < k+1->k' < l.length->cornOK l i k':=fun h k' h1 h2=>by
        by_cases h3:k' < k
        ·exact hk k' h3 h2
        ·rw [show k'=k by omega]; exact h
       by_cases e1:(k:Int)=i
       ·have d1:=decide_eq_true e1
        try simp (maxSteps:=9^9) only[go_sem,d1]
        repeat refine AI ?_
        refine LoopK.mk (k+1) ?_ (hgo fun h=>absurd e1 h) (by omega)
        exact WK
       ·have d1:=decide_eq_false e1
        by_cases e2:(k:Int)=((i:Int)+1) % (l.length:Int)
        ·have d2:=decide_eq_true e2
         try simp (maxSteps:=9^9) only[go_sem,d1]
         repeat refine AI ?_
         refine RemW.pos (by omega) (by omega) ?_
         try simp (maxSteps:=9^9) only[go_sem,d2]
         repeat refine AI ?_
         refine LoopK.mk (k+1) ?_ (hgo fun _ h=>absurd e2 h) (by omega)
         exact WK
        ·have d2:=decide_eq_false e2
         try simp (maxSteps:=9^9) only[go_sem,d1]
         repeat refine AI ?_
         refine RemW.pos (by omega) (by omega) ?_
         try simp (maxSteps:=9^9) only[go_sem,d2]
         repeat refine AI ?_
         refine cw hv ?_
         try simp (maxSteps:=9^9) only[go_sem]
         refine CondW_dec (fun e3=>?_) (fun e3=>?_)
         ·have:¬ polyP l:=fun h=>by
           have:=h.2.2 i k (by omega) (by omega) e1 e2
           omega
          rw [polyB_f this]
          try simp (maxSteps:=9^9) only[go_sem]
         ·try simp (maxSteps:=9^9) only[go_sem]
          repeat refine AI ?_
          refine LoopK.mk (k+1) ?_ (hgo fun _ _=>by omega) (by omega)
          exact WK
      ·try simp (maxSteps:=9^9) only[go_sem]
       repeat refine AI ?_
       refine LoopK.mk (i+1) ?_ (fun i' k' h1 h2 h3=>?_) (by omega)
       ·exact WK
       ·by_cases h4:i' < i
        ·exact hi i' k' h4 h2 h3
        ·rw [show i'=i by omega]; exact hk k' (by omega) h3
    ·have:polyP l:=⟨h1,hok,fun i' k h3 h4=>hi i' k (by omega) h3 h4⟩
     rw [polyB_t this]
     try simp (maxSteps:=9^9) only[go_sem]
  ·have:¬ polyP l:=fun h=>by
    have:=h.2.1
    rw [List.any_eq_true] at h2
    obtain ⟨v,hv,h3⟩:=h2
    rw [this v hv] at h3
    cases h3
   rw [polyB_f this]
   refine fe Tryz.func79 Tryz.ntmps79 Tryz.results79 fun hwf=>?_
   try simp (maxSteps:=9^9) only[go_sem]
   repeat refine AI ?_
   refine cw c1 ?_
   try simp (maxSteps:=9^9) only[go_sem]
   repeat refine AI ?_
   refine cw c2 ?_
   try simp (maxSteps:=9^9) only[go_sem]
 ·rw [decide_eq_false h1] at c1
  have:¬ polyP l:=fun h=>h1 h.1
  rw [polyB_f this]
  refine fe Tryz.func79 Tryz.ntmps79 Tryz.results79 fun hwf=>?_
  try simp (maxSteps:=9^9) only[go_sem]
  repeat refine AI ?_
  refine cw c1 ?_
  try simp (maxSteps:=9^9) only[go_sem]
def specOK (l:List DV) (i k:Nat):Prop:=okV (nth (t:=tVec) l k)=true/\(¬ (k:Int)=i->¬ (k:Int)=nxt l.length i->0 < trq (nth (t:=tVec) l i) (nth (t:=tVec) l (nxt l.length i).toNat) (nth (t:=tVec) l k))
theorem specOK_of {l:List DV} (h:polyP l) {i k:Nat} (hi:i < l.length) (hk:k < l.length):specOK l i k:=by
 have hr:=nxt_rng (n:=l.length) (i:=i) (by omega)
 refine ⟨h.2.1 _ (nth_mem hk),fun h1 h2=>?_⟩
 have h3:=h.2.2 i k hi hk h1 h2
 unfold trq
 rw [h.2.1 _ (nth_mem hi),h.2.1 _ (nth_mem hk),h.2.1 _ (nth_mem (i:=(nxt l.length i).toNat) (by omega))]
 exact h3
theorem polyP_of {l:List DV} (h0:3<=(l.length:Int)/\(l.length:Int)<=16) (h:∀ i k,i < l.length->k < l.length->specOK l i k):polyP l:=by
 have hv:∀ k,k < l.length->okV (nth (t:=tVec) l k)=true:=fun k hk=>(h 0 k (by omega) hk).1
 refine ⟨h0,fun v hm=>?_,fun i k hi hk h1 h2=>?_⟩
 ·obtain ⟨k,hk,rfl⟩:=List.getElem_of_mem hm
  have:=hv k hk
  rw [nth_lt hk] at this
  exact this
 ·have hr:=nxt_rng (n:=l.length) (i:=i) (by omega)
  have h3:=(h i k hi hk).2 h1 h2
  unfold trq at h3
  rw [hv i hi,hv k hk,hv (nxt l.length i).toNat (by omega)] at h3
  exact h3
theorem specIsPolygon_fn (l:List DV):Fn Tryz.prog 75 [⟨.slice tVec,l⟩] false [⟨.bool,polyB l⟩]:=by
 have c1:=l01In_fn l.length 3 16
 by_cases h1:3<=(l.length:Int)/\(l.length:Int)<=16
 ·rw [decide_eq_true h1] at c1
  have hN:0 < l.length:=by omega
  refine fe Tryz.func75 Tryz.ntmps75 Tryz.results75 fun hwf=>?_
  try simp (maxSteps:=9^9) only[go_sem]
  repeat refine AI ?_
  refine cw c1 ?_
  try simp (maxSteps:=9^9) only[go_sem]
  refine LoopG.intro _ _ _ (fun i:Nat=>⟨[(0,.sl tVec l),(3,.sc (.int .i64 l.length)),(14,.sl tVec l),(15,.sc (.int .i64 l.length)),(16,.sc (.int .i64 i))],[]⟩) (fun i=>∀ i' k,i' < i->i' < l.length->k < l.length->specOK l i' k) (fun i=>l.length - i) 0 ?_ (fun i' k h=>absurd h (Nat.not_lt_zero _)) ?_
  ·exact WK
  ·rintro i hi
   have hr:=nxt_rng (i:=i) hN
   unfold nxt at hr
   try simp (maxSteps:=9^9) only[go_sem]
   refine CondW_dec (fun hA=>?_) (fun hA=>?_)
   ·try simp (maxSteps:=9^9) only[go_sem]
    repeat refine AI ?_
    refine RemW.pos (by omega) (by omega) ?_
    try simp (maxSteps:=9^9) only[go_sem]
    repeat refine AI ?_
    refine LoopG.intro _ _ _ (fun k:Nat=>⟨[(0,.sl tVec l),(3,.sc (.int .i64 l.length)),(14,.sl tVec l),(15,.sc (.int .i64 l.length)),(16,.sc (.int .i64 i)),(4,.sc (.int .i64 i)),(5,.ptr 0 0),(6,.ptr 1 0),(28,.sl tVec l),(29,.sc (.int .i64 l.length)),(30,.sc (.int .i64 k))],[(1,.box [.sc (.int .i64 (nth (t:=tVec) l (nxt l.length i).toNat).1),.sc (.int .i64 (nth (t:=tVec) l (nxt l.length i).toNat).2)]),(0,.box [.sc (.int .i64 (nth (t:=tVec) l i).1),.sc (.int .i64 (nth (t:=tVec) l i).2)])]⟩) (fun k=>∀ k',k' < k->k' < l.length->specOK l i k') (fun k=>l.length - k) 0 ?_ (fun k h=>absurd h (Nat.not_lt_zero _)) ?_
    ·exact WK
    ·rintro k hk
     have hv:=Turn_fn (nth (t:=tVec) l i) (nth (t:=tVec) l (nxt l.length i).toNat) (nth (t:=tVec) l k)
     have hw:=IsValidVec_fn (nth (t:=tVec) l k)
     try simp (maxSteps:=9^9) only[go_sem]
     refine CondW_dec (fun hB=>?_) (fun hB=>?_)
     ·have hgo:specOK l i k->∀ k',k' < k+1->k' < l.length->specOK l i k':=fun h k' h1 h2=>by
       by_cases h3:k' < k
       ·exact hk k' h3 h2
       ·rw [show k'=k by omega]; exact h
      cases e0:okV (nth (t:=tVec) l k)<;>rw [e0] at hw
      ·have:¬ polyP l:=fun h=>by
        have:=h.2.1 _ (nth_mem (l:=l) (i:=k) (by omega))
        rw [e0] at this; cases this
       rw [polyB_f this]
       try simp (maxSteps:=9^9) only[go_sem]
       repeat refine AI ?_
       refine cw hw ?_
       try simp (maxSteps:=9^9) only[go_sem]
      ·by_cases e1:(k:Int)=i
       ·have d1:=decide_eq_true e1
        try simp (maxSteps:=9^9) only[go_sem]
        repeat refine AI ?_
        refine cw hw ?_
        try simp (maxSteps:=9^9) only[go_sem]
        try simp (maxSteps:=9^9) only[go_sem,d1]
        repeat refine AI ?_
        refine LoopK.mk (k+1) ?_ (hgo ⟨e0,fun h=>absurd e1 h⟩) (by omega)
        exact WK
       ·have d1:=decide_eq_false e1
        by_cases e2:(k:Int)=((i:Int)+1) % (l.length:Int)
        ·have d2:=decide_eq_true e2
         try simp (maxSteps:=9^9) only[go_sem]
         repeat refine AI ?_
         refine cw hw ?_
         try simp (maxSteps:=9^9) only[go_sem]
         try simp (maxSteps:=9^9) only[go_sem,d1]
         repeat refine AI ?_
         refine RemW.pos (by omega) (by omega) ?_
         try simp (maxSteps:=9^9) only[go_sem,d2]
         repeat refine AI ?_
         refine LoopK.mk (k+1) ?_ (hgo ⟨e0,fun _ h=>absurd e2 h⟩) (by omega)
         exact WK
        ·have d2:=decide_eq_false e2
         try simp (maxSteps:=9^9) only[go_sem]
         repeat refine AI ?_
         refine cw hw ?_
         try simp (maxSteps:=9^9) only[go_sem]
         try simp (maxSteps:=9^9) only[go_sem,d1]
         repeat refine AI ?_
         refine RemW.pos (by omega) (by omega) ?_
         try simp (maxSteps:=9^9) only[go_sem,d2]
         repeat refine AI ?_
         refine cw hv ?_
         try simp (maxSteps:=9^9) only[go_sem]
         refine CondW_dec (fun e3=>?_) (fun e3=>?_)
         ·have:¬ polyP l:=fun h=>by
           have:=(specOK_of h (i:=i) (k:=k) (by omega) (by omega)).2 e1 e2
           omega
          rw [polyB_f this]
          try simp (maxSteps:=9^9) only[go_sem]
         ·try simp (maxSteps:=9^9) only[go_sem]
          repeat refine AI ?_
          refine LoopK.mk (k+1) ?_ (hgo ⟨e0,fun _ _=>by omega⟩) (by omega)
          exact WK
     ·try simp (maxSteps:=9^9) only[go_sem]
      repeat refine AI ?_
      refine LoopK.mk (i+1) ?_ (fun i' k' h1 h2 h3=>?_) (by omega)
      ·exact WK
      ·by_cases h4:i' < i
       ·exact hi i' k' h4 h2 h3
       ·rw [show i'=i by omega]; exact hk k' (by omega) h3
   ·have:polyP l:=polyP_of h1 fun i' k h3 h4=>hi i' k (by omega) h3 h4
    rw [polyB_t this]
    try simp (maxSteps:=9^9) only[go_sem]
 ·rw [decide_eq_false h1] at c1
  have:¬ polyP l:=fun h=>h1 h.1
  rw [polyB_f this]
  refine fe Tryz.func75 Tryz.ntmps75 Tryz.results75 fun hwf=>?_
  try simp (maxSteps:=9^9) only[go_sem]
  repeat refine AI ?_
  refine cw c1 ?_
  try simp (maxSteps:=9^9) only[go_sem]
def ltV (a b:DV):Prop:=a.1 < b.1\/a.1=b.1/\a.2 < b.2
instance (a b:DV):Decidable (ltV a b):=by unfold ltV; infer_instance
theorem ltV_irrefl (a:DV):¬ ltV a a:=by unfold ltV; omega
theorem ltV_trans {a b c:DV} (h1:ltV a b) (h2:ltV b c):ltV a c:=by unfold ltV at *; omega
theorem ltV_tri (a b:DV):ltV a b\/a=b\/ltV b a:=by
 obtain ⟨a1,a2⟩:=a
 obtain ⟨b1,b2⟩:=b
 unfold ltV
 simp only [Prod.mk.injEq]
 omega
theorem ltV_asymm {a b:DV} (h:ltV a b):¬ ltV b a:=fun h2=>ltV_irrefl _ (ltV_trans h h2)
theorem srt_unique:∀ {l m:List DV},l.Pairwise ltV->m.Pairwise ltV->(∀ x,x ∈ l ↔ x ∈ m)->l=m
 | [],[],_,_,_=>rfl
 | [],b :: m,_,_,h=>absurd ((h b).2 List.mem_cons_self) (by simp)
 | a :: l,[],_,_,h=>absurd ((h a).1 List.mem_cons_self) (by simp)
 | a :: l,b :: m,h1,h2,h=>by
  rw [List.pairwise_cons] at h1 h2
  have hab:a=b:=by
   rcases List.mem_cons.1 ((h a).1 List.mem_cons_self) with e|e
   ·exact e
   ·rcases List.mem_cons.1 ((h b).2 List.mem_cons_self) with e2|e2
    ·exact e2.symm
    ·exact absurd (ltV_trans (h1.1 b e2) (h2.1 a e)) (ltV_irrefl _)
  subst hab
  refine congrArg (a :: ·) (srt_unique h1.2 h2.2 fun x=>⟨fun hx=>?_,fun hx=>?_⟩)
  ·rcases List.mem_cons.1 ((h x).1 (List.mem_cons_of_mem _ hx)) with e|e
   ·subst e; exact absurd (h1.1 _ hx) (ltV_irrefl _)
   ·exact e
  ·rcases List.mem_cons.1 ((h x).2 (List.mem_cons_of_mem _ hx)) with e|e
   ·subst e; exact absurd (h2.1 _ hx) (ltV_irrefl _)
   ·exact e
def cmpD:List DV->List DV
 | []=>[]
 | [a]=>[a]
 | a :: b :: l=>if a=b then cmpD (b :: l) else a :: cmpD (b :: l)
theorem cmpD_mem:∀ {l:List DV} {x:DV},x ∈ cmpD l ↔ x ∈ l
 | [],x=>by simp [cmpD]
 | [a],x=>by simp [cmpD]
 | a :: b :: l,x=>by
  have ih:=cmpD_mem (l:=b :: l) (x:=x)
  unfold cmpD
  split
  ·rename_i h; subst h; rw [ih]; simp
  ·rw [List.mem_cons,ih,List.mem_cons,List.mem_cons,List.mem_cons]
theorem cmpD_len:∀ {l:List DV},(cmpD l).length<=l.length
 | []=>by simp [cmpD]
 | [a]=>by simp [cmpD]
 | a :: b :: l=>by
  have ih:=cmpD_len (l:=b :: l)
  unfold cmpD
  split<;>simp only [List.length_cons] at ih ⊢<;>omega
theorem cmpD_srt:∀ {l:List DV},l.Pairwise (fun a b=>¬ ltV b a)->(cmpD l).Pairwise ltV
 | [],_=>by simp [cmpD]
 | [a],_=>by simp [cmpD]
 | a :: b :: l,h=>by
  rw [List.pairwise_cons] at h
  have ih:=cmpD_srt h.2
  unfold cmpD
  split
  ·exact ih
  ·rename_i hne
   refine List.pairwise_cons.2 ⟨fun x hx=>?_,ih⟩
   rw [cmpD_mem] at hx
   have hb:¬ ltV b a:=h.1 b List.mem_cons_self
   have hab:ltV a b:=by
    rcases ltV_tri a b with h|h|h
    ·exact h
    ·exact absurd h hne
    ·exact absurd h hb
   rcases List.mem_cons.1 hx with rfl|hx
   ·exact hab
   ·rcases ltV_tri b x with h3|h3|h3
    ·exact ltV_trans hab h3
    ·exact h3 ▸ hab
    ·exact absurd h3 ((List.pairwise_cons.1 h.2).1 x hx)
def cfV (a b:DV):Int:=if a.1=b.1 then a.2 - b.2 else a.1 - b.1
theorem cfV_lt (a b:DV):cfV a b < 0 ↔ ltV a b:=by
 unfold cfV ltV
 split<;>omega
def leB (a b:DV):Bool:=!decide (cfV b a < 0)
theorem leB_iff (a b:DV):leB a b=true ↔ ¬ ltV b a:=by
 unfold leB
 rw [Bool.not_eq_true',decide_eq_false_iff_not,cfV_lt]
def srtD (l:List DV):List DV:=cmpD (l.mergeSort leB)
theorem srtD_mem {l:List DV} {x:DV}:x ∈ srtD l ↔ x ∈ l:=by
 unfold srtD
 rw [cmpD_mem,List.mem_mergeSort]
theorem srtD_srt (l:List DV):(srtD l).Pairwise ltV:=by
 refine cmpD_srt ?_
 have h:=List.pairwise_mergeSort (le:=leB) (fun a b c h1 h2=>by
  rw [leB_iff] at *
  intro h
  rcases ltV_tri b a with h3|h3|h3
  ·exact h1 h3
  ·subst h3; exact h2 h
  ·exact h2 (ltV_trans h h3)) (fun a b=>by
  rcases ltV_tri a b with h|h|h
  ·rw [Bool.or_eq_true]; exact .inl ((leB_iff a b).2 (ltV_asymm h))
  ·subst h; rw [Bool.or_eq_true]; exact .inl ((leB_iff a a).2 (ltV_irrefl _))
  ·rw [Bool.or_eq_true]; exact .inr ((leB_iff b a).2 (ltV_asymm h))) l
 exact h.imp fun {a b} h=>(leB_iff a b).1 h
theorem srtD_len (l:List DV):(srtD l).length<=l.length:=by
 unfold srtD
 have:=cmpD_len (l:=l.mergeSort leB)
 rw [List.length_mergeSort] at this
 exact this
theorem srtD_eq {l m:List DV} (h1:m.Pairwise ltV) (h2:∀ x,x ∈ m ↔ x ∈ l):m=srtD l:=srt_unique h1 (srtD_srt l) fun x=>by rw [h2,srtD_mem]
def insD (p:DV):List DV->List DV
 | []=>[p]
 | a :: l=>if ltV a p then a :: insD p l else if a=p then a :: l else p :: a :: l
theorem insD_mem {p x:DV}:∀ {l:List DV},x ∈ insD p l ↔ x=p\/x ∈ l
 | []=>by simp [insD]
 | a :: l=>by
  have ih:=insD_mem (p:=p) (x:=x) (l:=l)
  unfold insD
  split
  ·rw [List.mem_cons,ih,List.mem_cons]; constructor
   ·rintro (h|h|h)
    ·exact .inr (.inl h)
    ·exact .inl h
    ·exact .inr (.inr h)
   ·rintro (h|h|h)
    ·exact .inr (.inl h)
    ·exact .inl h
    ·exact .inr (.inr h)
  ·split
   ·rename_i h; subst h; simp
   ·simp
theorem insD_srt {p:DV}:∀ {l:List DV},l.Pairwise ltV->(insD p l).Pairwise ltV
 | [],_=>by simp [insD]
 | a :: l,h=>by
  have h':=h
  rw [List.pairwise_cons] at h
  unfold insD
  split
  ·rename_i hlt
   refine List.pairwise_cons.2 ⟨fun x hx=>?_,insD_srt h.2⟩
   rcases insD_mem.1 hx with rfl|hx
   ·exact hlt
   ·exact h.1 x hx
  ·split
   ·exact h'
   ·rename_i h1 h2
    have hp:ltV p a:=by
     rcases ltV_tri a p with h3|h3|h3
     ·exact absurd h3 h1
     ·exact absurd h3 h2
     ·exact h3
    refine List.pairwise_cons.2 ⟨fun x hx=>?_,h'⟩
    rcases List.mem_cons.1 hx with rfl|hx
    ·exact hp
    ·exact ltV_trans hp (h.1 x hx)
theorem insD_at {p:DV}:∀ {l:List DV} {i:Nat},i<=l.length->(∀ j,j < i->ltV (nth (t:=tVec) l j) p)->(i < l.length->¬ ltV (nth (t:=tVec) l i) p) →
  insD p l=if i < l.length/\nth (t:=tVec) l i=p then l else l.take i++p :: l.drop i
 | [],0,_,_,_=>by simp [insD]
 | [],i+1,h,_,_=>by simp at h
 | a :: l,0,_,_,h2=>by
  have h2:¬ ltV a p:=h2 (by simp)
  have e:nth (t:=tVec) (a :: l) 0=a:=rfl
  unfold insD
  rw [if_neg h2,e]
  by_cases h3:a=p
  ·rw [if_pos h3,if_pos ⟨by simp,h3⟩]
  ·rw [if_neg h3,if_neg fun h=>h3 h.2]; rfl
 | a :: l,i+1,hi,h1,h2=>by
  have e:∀ j,nth (t:=tVec) (a :: l) (j+1)=nth (t:=tVec) l j:=fun j=>by simp [nth]
  have h0:ltV a p:=h1 0 (by omega)
  have ih:=insD_at (p:=p) (l:=l) (i:=i) (by simp only [List.length_cons] at hi; omega) (fun j hj=>by rw [<-e]; exact h1 (j+1) (by omega)) (fun hj=>by rw [<-e]; exact h2 (by simp only [List.length_cons]; omega))
  unfold insD
  rw [if_pos h0,ih,e]
  by_cases h3:i < l.length/\nth (t:=tVec) l i=p
  ·rw [if_pos h3,if_pos ⟨by simp only [List.length_cons]; omega,h3.2⟩]
  ·rw [if_neg h3,if_neg fun h=>h3 ⟨by have:=h.1; simp only [List.length_cons] at this; omega,h.2⟩]; rfl
def srtI (l:List DV) (i:Nat):List DV:=(l.take i).foldl (fun s p=>insD p s) []
theorem srtI_step {l:List DV} {i:Nat} (h:i < l.length):srtI l (i+1)=insD (nth (t:=tVec) l i) (srtI l i):=by
 unfold srtI
 rw [nth_lt h,List.take_succ_eq_append_getElem h,List.foldl_append]; rfl
theorem ins_fold:∀ {l s:List DV},s.Pairwise ltV->(l.foldl (fun s p=>insD p s) s).Pairwise ltV/\∀ x,x ∈ l.foldl (fun s p=>insD p s) s ↔ x ∈ l\/x ∈ s
 | [],s,h=>⟨h,fun x=>by simp⟩
 | p :: l,s,h=>by
  obtain ⟨h1,h2⟩:=ins_fold (l:=l) (insD_srt (p:=p) h)
  refine ⟨h1,fun x=>?_⟩
  rw [List.foldl_cons,h2,insD_mem,List.mem_cons]
  constructor
  ·rintro (h|h|h)
   ·exact .inl (.inr h)
   ·exact .inl (.inl h)
   ·exact .inr h
  ·rintro ((h|h)|h)
   ·exact .inr (.inl h)
   ·exact .inl h
   ·exact .inr (.inr h)
theorem srtI_all (l:List DV):srtI l l.length=srtD l:=by
 unfold srtI
 rw [List.take_length]
 obtain ⟨h1,h2⟩:=ins_fold (l:=l) (s:=[]) List.Pairwise.nil
 exact srtD_eq h1 fun x=>by rw [h2]; simp
theorem insD_len {p:DV}:∀ {l:List DV},(insD p l).length<=l.length+1
 | []=>by simp [insD]
 | a :: l=>by
  have ih:=insD_len (p:=p) (l:=l)
  unfold insD
  split
  ·simp only [List.length_cons]; omega
  ·split<;>simp only [List.length_cons]<;>omega
theorem srtI_len (l:List DV):∀ i,(srtI l i).length<=i
 | 0=>by simp [srtI]
 | i+1=>by
  by_cases h:i < l.length
  ·rw [srtI_step h]
   have:=insD_len (p:=nth (t:=tVec) l i) (l:=srtI l i)
   have:=srtI_len l i
   omega
  ·have:srtI l (i+1)=srtI l i:=by
    unfold srtI; rw [List.take_of_length_le (by omega),List.take_of_length_le (by omega)]
   rw [this]
   have:=srtI_len l i
   omega
def popD (v:DV):List DV->List DV
 | b :: a :: l=>if trn a b v<=0 then popD v (a :: l) else b :: a :: l
 | l=>l
theorem popD_len {v:DV}:∀ {l:List DV},(popD v l).length<=l.length
 | []=>Nat.le_refl _
 | [a]=>Nat.le_refl _
 | b :: a :: l=>by
  unfold popD
  split
  ·exact Nat.le_trans popD_len (by simp)
  ·exact Nat.le_refl _
theorem popD_sub {v x:DV}:∀ {l:List DV},x ∈ popD v l->x ∈ l
 | [],h=>h
 | [a],h=>h
 | b :: a :: l,h=>by
  unfold popD at h
  split at h
  ·exact List.mem_cons_of_mem _ (popD_sub h)
  ·exact h
def chR (l:List DV):List DV:=l.foldl (fun c v=>v :: popD v c) []
def chRi (l:List DV) (i:Nat):List DV:=chR (l.take i)
theorem chRi_step {l:List DV} {i:Nat} (h:i < l.length):chRi l (i+1)=nth (t:=tVec) l i :: popD (nth (t:=tVec) l i) (chRi l i):=by
 unfold chRi chR
 rw [nth_lt h,List.take_succ_eq_append_getElem h,List.foldl_append]; rfl
theorem chRi_len (l:List DV):∀ i,(chRi l i).length<=i
 | 0=>by simp [chRi,chR]
 | i+1=>by
  by_cases h:i < l.length
  ·rw [chRi_step h,List.length_cons]
   have:=popD_len (v:=nth (t:=tVec) l i) (l:=chRi l i)
   have:=chRi_len l i
   omega
  ·have:chRi l (i+1)=chRi l i:=by
    unfold chRi; rw [List.take_of_length_le (by omega),List.take_of_length_le (by omega)]
   rw [this]
   have:=chRi_len l i
   omega
theorem chRi_mem {l:List DV} {x:DV}:∀ {i:Nat},x ∈ chRi l i->x ∈ l
 | 0,h=>by simp [chRi,chR] at h
 | i+1,h=>by
  by_cases hi:i < l.length
  ·rw [chRi_step hi] at h
   rcases List.mem_cons.1 h with rfl|h
   ·exact nth_mem hi
   ·exact chRi_mem (popD_sub h)
  ·have e:chRi l (i+1)=chRi l i:=by
    unfold chRi; rw [List.take_of_length_le (by omega),List.take_of_length_le (by omega)]
   rw [e] at h
   exact chRi_mem h
def chD (l:List DV):List DV:=(chR l).reverse.dropLast
def hullD (l:List DV):List DV:=if (srtD l).length < 2 then srtD l else chD (srtD l)++chD (srtD l).reverse
def rot1 (v:DV):DV:=(-v.2,v.1)
def rotN:Nat->DV->DV
 | 0,v=>v
 | n+1,v=>rot1 (rotN n v)
theorem okV_of {v:DV} (h1:-1000<=v.1) (h2:v.1<=1000) (h3:-1000<=v.2) (h4:v.2<=1000):okV v=true:=by
 unfold okV inB
 rw [Bool.and_eq_true,decide_eq_true_iff,decide_eq_true_iff]
 exact ⟨⟨h1,h2⟩,h3,h4⟩
theorem okV_rot {v:DV} (h:okV v=true):∀ n,okV (rotN n v)=true
 | 0=>h
 | n+1=>by
  have:=okV_b (okV_rot h n)
  show okV (rot1 (rotN n v))=true
  unfold rot1
  exact okV_of (by simp only; omega) (by simp only; omega) (by simp only; omega) (by simp only; omega)
theorem turnVec_fn (v:DV) (k:Int) (hv:okV v=true) (hk:0<=k/\k<=3):Fn Tryz.prog 201 [⟨tVec,v⟩,⟨.int,k⟩] false [⟨tVec,rotN k.toNat v⟩]:=by
 have e:(k % 4+4) % 4=k:=by omega
 refine fe Tryz.func201 Tryz.ntmps201 Tryz.results201 fun hwf=>?_
 try simp (maxSteps:=9^9) only[go_sem]
 refine RemW.pos (by omega) (by decide) ?_
 try simp (maxSteps:=9^9) only[go_sem]
 repeat refine AI ?_
 refine RemW.pos (by omega) (by decide) ?_
 rw [e]
 try simp (maxSteps:=9^9) only[go_sem]
 refine LoopG.intro _ _ _ (fun i:Nat=>⟨[(2,.ptr 0 0),(4,.ptr 1 0),(8,.sc (.int .i64 k)),(9,.sc (.int .i64 i))],[(1,.box [.sc (.int .i64 0),.sc (.int .i64 0)]),(0,.box [.sc (.int .i64 (rotN i v).1),.sc (.int .i64 (rotN i v).2)])]⟩) (fun i=>i<=k.toNat) (fun i=>k.toNat - i) 0 ?_ (Nat.zero_le _) ?_
 ·exact WK
 ·rintro i hi
  have hb:=okV_b (okV_rot hv i)
  have hst:rotN (i+1) v=(-(rotN i v).2,(rotN i v).1):=rfl
  generalize rotN i v=u at hb hst ⊢
  obtain ⟨b1,b2,b3,b4⟩:=hb
  try simp (maxSteps:=9^9) only[go_sem]
  refine CondW_dec (fun hA=>?_) (fun hA=>?_)
  ·try simp (maxSteps:=9^9) only[go_sem]
   repeat refine AI ?_
   refine LoopK.mk (i+1) ?_ (by omega) (by omega)
   rw [hst]
   exact WK
  ·rw [show k.toNat=i by omega]
   try simp (maxSteps:=9^9) only[go_sem]
   all_goals repeat refine AI ?_
   all_goals first|kernel_rfl|omega|rfl
def mapi (f:DV->DV) (l:List DV) (i:Nat):List DV:=(l.take i).map f
theorem mapi_step {f:DV->DV} {l:List DV} {i:Nat} (h:i < l.length):mapi f l (i+1)=mapi f l i++[f (nth (t:=tVec) l i)]:=by
 unfold mapi
 rw [List.take_succ_eq_append_getElem h,nth_lt h,List.map_append]
 rfl
theorem mapi_len {f:DV->DV} {l:List DV} {i:Nat} (h:i<=l.length):(mapi f l i).length=i:=by
 unfold mapi
 rw [List.length_map,List.length_take]; omega
theorem mapi_all {f:DV->DV} {l:List DV} {i:Nat} (h:l.length<=i):mapi f l i=l.map f:=by
 unfold mapi
 rw [List.take_of_length_le h]
theorem any_okV_f {l:List DV} (h:∀ v ∈ l,okV v=true):(l.any fun v=>!okV v)=false:=by
 rw [List.any_eq_false]
 intro v hv
 rw [h v hv]; decide
theorem TurnPolygonI_fn (l:List DV) (k:Int) (hl:∀ v ∈ l,okV v=true) (hn:l.length<=1048576) (hk:0<=k/\k<=3):Fn Tryz.prog 165 [⟨.slice tVec,l⟩,⟨.int,k⟩] true [⟨.slice tVec,l.map (rotN k.toNat)⟩]:=by
 have c1:=areVecs_fn l
 rw [any_okV_f hl] at c1
 refine fe Tryz.func165 Tryz.ntmps165 Tryz.results165 fun hwf=>?_
 try simp (maxSteps:=9^9) only[go_sem]
 repeat refine AI ?_
 refine cw c1 ?_
 try simp (maxSteps:=9^9) only[go_sem]
 refine LoopG.intro _ _ _ (fun i:Nat=>⟨[(1,.sc (.int .i64 k)),(5,.row 0 0),(12,.sl tVec l),(13,.sc (.int .i64 l.length)),(14,.sc (.int .i64 i))],[(0,.row 24 tVec 0 true (mapi (rotN k.toNat) l i))]⟩) (fun i=>i<=l.length) (fun i=>l.length - i) 0 ?_ (Nat.zero_le _) ?_
 ·exact WK
 ·rintro i hi
  try simp (maxSteps:=9^9) only[go_sem]
  refine CondW_dec (fun hA=>?_) (fun hA=>?_)
  ·have hlt:i < l.length:=by omega
   have hml:=mapi_len (f:=rotN k.toNat) (l:=l) (i:=i) (by omega)
   have e:=mapi_step (f:=rotN k.toNat) hlt
   have c2:=turnVec_fn (nth (t:=tVec) l i) k (hl _ (nth_mem hlt)) hk
   try simp (maxSteps:=9^9) only[go_sem]
   repeat refine AI ?_
   repeat refine AI ?_
   refine cw c2 ?_
   try simp (maxSteps:=9^9) only[go_sem]
   try simp (maxSteps:=9^9) only[go_sem,hml]
   repeat refine AI ?_
   refine LoopK.mk (i+1) ?_ (by omega) (by omega)
   rw [e]
   refine Wk.mk [] ?_
   try simp (maxSteps:=9^9) only[go_sem]
   try (and_intros<;>first|rfl|omega|exact ⟨_,rfl⟩)
   all_goals (first|exact ⟨by omega,rfl⟩|exact ⟨rfl,rfl⟩)
  ·rw [mapi_all (by omega)]
   try simp (maxSteps:=9^9) only[go_sem]
def negV (v:DV):DV:=(-v.1,-v.2)
theorem NegatePolygonI_fn (l:List DV) (hl:∀ v ∈ l,okV v=true) (hn:l.length<=1048576):Fn Tryz.prog 167 [⟨.slice tVec,l⟩] true [⟨.slice tVec,l.map negV⟩]:=by
 have c1:=areVecs_fn l
 rw [any_okV_f hl] at c1
 refine fe Tryz.func167 Tryz.ntmps167 Tryz.results167 fun hwf=>?_
 try simp (maxSteps:=9^9) only[go_sem]
 repeat refine AI ?_
 refine cw c1 ?_
 try simp (maxSteps:=9^9) only[go_sem]
 refine LoopG.intro _ _ _ (fun i:Nat=>⟨[(3,.row 0 0),(10,.sl tVec l),(11,.sc (.int .i64 l.length)),(12,.sc (.int .i64 i))],[(0,.row 24 tVec 0 true (mapi negV l i))]⟩) (fun i=>i<=l.length) (fun i=>l.length - i) 0 ?_ (Nat.zero_le _) ?_
 ·exact WK
 ·rintro i hi
  try simp (maxSteps:=9^9) only[go_sem]
  refine CondW_dec (fun hA=>?_) (fun hA=>?_)
  ·have hlt:i < l.length:=by omega
   have hml:=mapi_len (f:=negV) (l:=l) (i:=i) (by omega)
   have e:=mapi_step (f:=negV) hlt
   have hb:=okV_b (hl _ (nth_mem hlt))
   obtain ⟨b1,b2,b3,b4⟩:=hb
   try simp (maxSteps:=9^9) only[go_sem]
   repeat refine AI ?_
   try simp (maxSteps:=9^9) only[go_sem,hml]
   repeat refine AI ?_
   refine LoopK.mk (i+1) ?_ (by omega) (by omega)
   rw [e]
   unfold negV
   refine Wk.mk [] ?_
   try simp (maxSteps:=9^9) only[go_sem]
   try (and_intros<;>first|rfl|omega|exact ⟨_,rfl⟩)
   all_goals (first|exact ⟨by omega,rfl⟩|exact ⟨rfl,rfl⟩)
  ·rw [mapi_all (by omega)]
   try simp (maxSteps:=9^9) only[go_sem]
def addV (v c:DV):DV:=(c.1+v.1,c.2+v.2)
theorem moved_fn (l:List DV) (v:DV) (hv:okV v=true) (hl:∀ v ∈ l,okV v=true) (hn:l.length<=1048576):Fn Tryz.prog 58 [⟨.slice tVec,l⟩,⟨tVec,v⟩] true [⟨.slice tVec,l.map (addV v)⟩]:=by
 obtain ⟨q1,q2,q3,q4⟩:=okV_b hv
 refine fe Tryz.func58 Tryz.ntmps58 Tryz.results58 fun hwf=>?_
 try simp (maxSteps:=9^9) only[go_sem]
 refine LoopG.intro _ _ _ (fun i:Nat=>⟨[(3,.ptr 0 0),(5,.row 1 0),(9,.sl tVec l),(10,.sc (.int .i64 l.length)),(11,.sc (.int .i64 i))],[(1,.row 24 tVec 0 true (mapi (addV v) l i)),(0,.box [.sc (.int .i64 v.1),.sc (.int .i64 v.2)])]⟩) (fun i=>i<=l.length) (fun i=>l.length - i) 0 ?_ (Nat.zero_le _) ?_
 ·exact WK
 ·rintro i hi
  try simp (maxSteps:=9^9) only[go_sem]
  refine CondW_dec (fun hA=>?_) (fun hA=>?_)
  ·have hlt:i < l.length:=by omega
   have hml:=mapi_len (f:=addV v) (l:=l) (i:=i) (by omega)
   have e:=mapi_step (f:=addV v) hlt
   obtain ⟨b1,b2,b3,b4⟩:=okV_b (hl _ (nth_mem hlt))
   try simp (maxSteps:=9^9) only[go_sem]
   repeat refine AI ?_
   try simp (maxSteps:=9^9) only[go_sem,hml]
   repeat refine AI ?_
   refine LoopK.mk (i+1) ?_ (by omega) (by omega)
   rw [e]
   unfold addV
   refine Wk.mk [] ?_
   try simp (maxSteps:=9^9) only[go_sem]
   try (and_intros<;>first|rfl|omega|exact ⟨_,rfl⟩)
   all_goals (first|exact ⟨by omega,rfl⟩|exact ⟨rfl,rfl⟩)
  ·rw [mapi_all (by omega)]
   try simp (maxSteps:=9^9) only[go_sem]
section
variable {P:Program} {f:FuncId} {fn:Func} {code:Code}
theorem enters (hf:P.funcs[f]? = some fn) (hname:(fn.name == "runtime.NumGoroutine")=false) (hb:fn.body=some code):∀ vs w,(callFunc f vs).run P w=.ok (.enter f vs) w:=by
 intro vs w
 have h1:fn.name ≠ "runtime.NumGoroutine":=by simpa using hname
 simp [callFunc,hf,h1,hb]
theorem drep_int {w:World} {v:Value} {n:Int} {fp:List Nat} (h:DRep w v ⟨.int,n⟩ fp):v=.int .i64 n:=by
 obtain ⟨cs,hp,hr⟩:=h
 rcases hp with ⟨h,_⟩|⟨_,rfl⟩
 ·cases h
 ·exact (List.cons.inj hr.1).1
theorem dres_bool {own:Bool} {base:Nat} {S:Nat->Prop} {w:World} {n:Bool}:DRes own base S w (.bool n) ⟨.bool,n⟩:=⟨[],⟨[_],.inr ⟨rfl,rfl⟩,rfl,rfl⟩,fun _=>ownFp_nil _ _,fun b hb=>by cases hb⟩
variable (en:∀ vs w,(callFunc f vs).run P w=.ok (.enter f vs) w)
include en
theorem Fn.ofEq {t:Ty} {x y:t.den} {r:Bool} (h:∀ w v cs u ds,pk t v cs->Has t.rp w cs x->pk t u ds->Has t.rp w ds y->Calls P f #[v,u] w (Post fun v w'=>v=.bool r/\Below w.heap.size w w')):Fn P f [⟨t,x⟩,⟨t,y⟩] false [⟨.bool,r⟩]:=by
 refine ⟨en,fun w vs S _ ha=>?_⟩
 match vs,ha with
 | [v1,v2],⟨⟨fp1,⟨cs,hp,hr⟩,_⟩,⟨fp2,⟨ds,hp2,hr2⟩,_⟩,_⟩ =>
  refine (h w v1 cs v2 ds hp ⟨fp1,hr⟩ hp2 ⟨fp2,hr2⟩).mono fun e w' ⟨v,he,hv,hb⟩=>⟨hb,v,he,?_⟩
  subst hv
  exact dres_bool
 | [],ha=>exact ha.elim
 | [_],ha=>exact ha.2.elim
 | _ :: _ :: _ :: _,ha=>exact ha.2.2.elim
end
theorem pk_agg {t:Ty} {v:Value} {cs:List Value} (ht:t.isAgg=true) (h:pk t v cs):v=.agg cs.toArray:=by
 rcases h with ⟨_,h⟩|⟨h,_⟩
 ·exact h
 ·rw [ht] at h; cases h
theorem pk_one {t:Ty} {v:Value} {cs:List Value} (ht:t.isAgg=false) (h:pk t v cs):cs=[v]:=by
 rcases h with ⟨h,_⟩|⟨_,h⟩
 ·rw [ht] at h; cases h
 ·exact h
end Go.Proofs.YtcbionahcldlnaaGreat.DW

namespace Go.Proofs.YtcbionahcldlnaaGreat
open Go.RowKit
section
variable {o:Bool} {base:Nat} {w w':World} {e:TypeId} {v:Value} {l:List Int}
end
section
variable {P:Program} (w:World)
end
end Go.Proofs.YtcbionahcldlnaaGreat

namespace Go.Proofs.YtcbionahcldlnaaGreat
open Go.RowKit
end Go.Proofs.YtcbionahcldlnaaGreat

namespace Go.Proofs.YtcbionahcldlnaaGreat
open Go.RowKit DW
end Go.Proofs.YtcbionahcldlnaaGreat

namespace Go.Proofs.YtcbionahcldlnaaGreat.DW
open Go.RowKit
noncomputable def sdP (p q r:DP):Int:=sgnO (subO (mulO (subO (rdO q.1) (rdO p.1)) (subO (rdO r.2) (rdO p.2))) (mulO (subO (rdO q.2) (rdO p.2)) (subO (rdO r.1) (rdO p.1))))
theorem side_fn (p q r:DP) (hp:okPt p=true) (hq:okPt q=true) (hr:okPt r=true):Fn Tryz.prog 197 [⟨tPoint,p⟩,⟨tPoint,q⟩,⟨tPoint,r⟩] false [⟨.int,sdP p q r⟩]:=by
 obtain ⟨p1,p2⟩:=Bool.and_eq_true_iff.1 (show (okR p.1 && okR p.2)=true from hp)
 obtain ⟨q1,q2⟩:=Bool.and_eq_true_iff.1 (show (okR q.1 && okR q.2)=true from hq)
 obtain ⟨r1,r2⟩:=Bool.and_eq_true_iff.1 (show (okR r.1 && okR r.2)=true from hr)
 have c1:=ratSub_fn (rdO q.1) (rdO p.1) (okO_rdO _) (okO_rdO _)
 have c2:=ratSub_fn (rdO r.2) (rdO p.2) (okO_rdO _) (okO_rdO _)
 have c3:=ratMul_fn _ _ (okO_sub (rdO q.1) (rdO p.1)) (okO_sub (rdO r.2) (rdO p.2))
 have c4:=ratSub_fn (rdO q.2) (rdO p.2) (okO_rdO _) (okO_rdO _)
 have c5:=ratSub_fn (rdO r.1) (rdO p.1) (okO_rdO _) (okO_rdO _)
 have c6:=ratMul_fn _ _ (okO_sub (rdO q.2) (rdO p.2)) (okO_sub (rdO r.1) (rdO p.1))
 have c7:=ratSub_fn (mulO (subO (rdO q.1) (rdO p.1)) (subO (rdO r.2) (rdO p.2))) (mulO (subO (rdO q.2) (rdO p.2)) (subO (rdO r.1) (rdO p.1))) (okO_mul _ _) (okO_mul _ _)
 have c8:=ratSign_fn (subO (mulO (subO (rdO q.1) (rdO p.1)) (subO (rdO r.2) (rdO p.2))) (mulO (subO (rdO q.2) (rdO p.2)) (subO (rdO r.1) (rdO p.1))))
 rw [okR_oD p1,okR_oD q1] at c1
 rw [okR_oD p2,okR_oD r2] at c2
 rw [okR_oD p2,okR_oD q2] at c4
 rw [okR_oD p1,okR_oD r1] at c5
 unfold sdP
 refine fe Tryz.func197 Tryz.ntmps197 Tryz.results197 fun hwf=>?_
 try simp (maxSteps:=9^9) only[go_sem]
 repeat refine AI ?_
 refine cw c1 ?_
 try simp (maxSteps:=9^9) only[go_sem]
 repeat refine AI ?_
 refine cw c2 ?_
 try simp (maxSteps:=9^9) only[go_sem]
 repeat refine AI ?_
 refine cw c3 ?_
 try simp (maxSteps:=9^9) only[go_sem]
 repeat refine AI ?_
 refine cw c4 ?_
 try simp (maxSteps:=9^9) only[go_sem]
 repeat refine AI ?_
 refine cw c5 ?_
 try simp (maxSteps:=9^9) only[go_sem]
 repeat refine AI ?_
 refine cw c6 ?_
 try simp (maxSteps:=9^9) only[go_sem]
 repeat refine AI ?_
 refine cw c7 ?_
 try simp (maxSteps:=9^9) only[go_sem]
 repeat refine AI ?_
 refine cw c8 ?_
 try simp (maxSteps:=9^9) only[go_sem]
 all_goals repeat refine AI ?_
 all_goals first|kernel_rfl|omega|rfl
def ptV (v:DV):DP:=(ratI v.1,ratI v.2)
theorem PointOfI_fn (v:DV):Fn Tryz.prog 52 [⟨tVec,v⟩] true [⟨tPoint,ptV v⟩]:=by
 have c1:=ratInt_fn v.1
 have c2:=ratInt_fn v.2
 unfold ptV
 refine fe Tryz.func52 Tryz.ntmps52 Tryz.results52 fun hwf=>?_
 try simp (maxSteps:=9^9) only[go_sem]
 repeat refine AI ?_
 refine cw c1 ?_
 try simp (maxSteps:=9^9) only[go_sem]
 repeat refine AI ?_
 refine cw c2 ?_
 try simp (maxSteps:=9^9) only[go_sem]
 all_goals repeat refine AI ?_
 all_goals first|kernel_rfl|omega|rfl
theorem okR_ratI {n:Int} (h1:-1000<=n) (h2:n<=1000):okR (ratI n)=true:=by
 have ho:okO (some ((n:Int):Rat)):=by
  intro q hq; injection hq with hq; subst hq
  exact ⟨Nat.le_trans (nl_small (n:=n.natAbs) (by omega)) (by decide),Nat.le_trans (nl_small (n:=1) (by decide)) (by decide)⟩
 rw [show ratI n=oD (some ((n:Int):Rat)) from ratI_eq n]
 unfold okR
 rw [rdO_oD ho]; rfl
theorem okPt_ptV {v:DV} (h:okV v=true):okPt (ptV v)=true:=by
 obtain ⟨b1,b2,b3,b4⟩:=okV_b h
 show (okR (ratI v.1) && okR (ratI v.2))=true
 rw [okR_ratI b1 b2,okR_ratI b3 b4]; rfl
def mapp (l:List DV) (i:Nat):List DP:=(l.take i).map ptV
theorem mapp_step {l:List DV} {i:Nat} (h:i < l.length):mapp l (i+1)=mapp l i++[ptV (nth (t:=tVec) l i)]:=by
 unfold mapp
 rw [List.take_succ_eq_append_getElem h,nth_lt h,List.map_append]
 rfl
theorem mapp_len {l:List DV} {i:Nat} (h:i<=l.length):(mapp l i).length=i:=by
 unfold mapp
 rw [List.length_map,List.length_take]; omega
theorem mapp_all {l:List DV} {i:Nat} (h:l.length<=i):mapp l i=l.map ptV:=by
 unfold mapp
 rw [List.take_of_length_le h]
theorem pointsOf_fn (l:List DV) (hn:l.length<=1048576):Fn Tryz.prog 163 [⟨.slice tVec,l⟩] true [⟨.slice tPoint,l.map ptV⟩]:=by
 refine fe Tryz.func163 Tryz.ntmps163 Tryz.results163 fun hwf=>?_
 try simp (maxSteps:=9^9) only[go_sem]
 refine LoopG.intro _ _ _ (fun i:Nat=>⟨[(3,.row 0 0),(7,.sl tVec l),(8,.sc (.int .i64 l.length)),(9,.sc (.int .i64 i))],[(0,.row 103 tPoint 0 true (mapp l i))]⟩) (fun i=>i<=l.length) (fun i=>l.length - i) 0 ?_ (Nat.zero_le _) ?_
 ·refine Wk.mk [] ?_
  try simp (maxSteps:=9^9) only[go_sem]
  try (and_intros<;>first|rfl|omega|exact ⟨_,rfl⟩)
  all_goals (first|exact ⟨rfl,rfl⟩|rfl)
 ·rintro i hi
  try simp (maxSteps:=9^9) only[go_sem]
  refine CondW_dec (fun hA=>?_) (fun hA=>?_)
  ·have hlt:i < l.length:=by omega
   have hml:=mapp_len (l:=l) (i:=i) (by omega)
   have e:=mapp_step hlt
   have c2:=PointOfI_fn (nth (t:=tVec) l i)
   try simp (maxSteps:=9^9) only[go_sem]
   repeat refine AI ?_
   repeat refine AI ?_
   refine cw c2 ?_
   try simp (maxSteps:=9^9) only[go_sem]
   try simp (maxSteps:=9^9) only[go_sem,hml]
   repeat refine AI ?_
   refine LoopK.mk (i+1) ?_ (by omega) (by omega)
   rw [e]
   refine Wk.mk [] ?_
   try simp (maxSteps:=9^9) only[go_sem]
   try (and_intros<;>first|rfl|omega|exact ⟨_,rfl⟩)
   all_goals (first|exact ⟨by omega,rfl⟩|exact ⟨rfl,rfl⟩)
  ·rw [mapp_all (by omega)]
   try simp (maxSteps:=9^9) only[go_sem]
noncomputable def cntI (l:List DV) (p:DP):Nat->Int
 | 0=>1
 | i+1=>min (cntI l p i) (sdP (ptV (nth (t:=tVec) l i)) (ptV (nth (t:=tVec) l (nxt l.length i).toNat)) p)
theorem nth_ptV {l:List DV} {i:Nat} (h:i < l.length):nth (t:=tPoint) (l.map ptV) i=ptV (nth (t:=tVec) l i):=by
 rw [nth_lt (t:=tVec) h,nth_lt (t:=tPoint) (l:=l.map ptV) (by rw [List.length_map]; exact h),List.getElem_map]
theorem contains_fn (l:List DV) (p:DP) (hl:∀ v ∈ l,okV v=true) (hn:l.length<=1048576) (hp:okPt p=true):Fn Tryz.prog 162 [⟨.slice tVec,l⟩,⟨tPoint,p⟩] false [⟨.int,cntI l p l.length⟩]:=by
 have c1:=pointsOf_fn l hn
 have hml:(l.map ptV).length=l.length:=List.length_map ..
 refine fe Tryz.func162 Tryz.ntmps162 Tryz.results162 fun hwf=>?_
 try simp (maxSteps:=9^9) only[go_sem]
 repeat refine AI ?_
 refine cw c1 ?_
 try simp (maxSteps:=9^9) only[go_sem]
 try simp (maxSteps:=9^9) only[go_sem,hml]
 refine LoopG.intro _ _ _ (fun i:Nat=>⟨[(3,.ptr 0 0),(5,.sl tPoint (l.map ptV)),(6,.sc (.int .i64 (cntI l p i))),(11,.sl tPoint (l.map ptV)),(12,.sc (.int .i64 l.length)),(13,.sc (.int .i64 i))],[(0,.box (cel tPoint p))]⟩) (fun i=>i<=l.length) (fun i=>l.length - i) 0 ?_ (Nat.zero_le _) ?_
 ·refine Wk.mk [] ?_
  try simp (maxSteps:=9^9) only[go_sem]
  try (and_intros<;>first|rfl|omega|exact ⟨_,rfl⟩)
  trace_state
 ·rintro i hi
  try simp (maxSteps:=9^9) only[go_sem]
  refine CondW_dec (fun hA=>?_) (fun hA=>?_)
  ·have hlt:i < l.length:=by omega
   have hr:=nxt_rng (n:=l.length) (i:=i) (by omega)
   have hr2:(nxt l.length i).toNat < l.length:=by omega
   have c2:=side_fn (ptV (nth (t:=tVec) l i)) (ptV (nth (t:=tVec) l (nxt l.length i).toNat)) p (okPt_ptV (hl _ (nth_mem hlt))) (okPt_ptV (hl _ (nth_mem hr2))) hp
   rw [<-nth_ptV hlt,<-nth_ptV hr2] at c2
   unfold nxt at hr hr2 c2
   try simp (maxSteps:=9^9) only[go_sem,hml]
   repeat refine AI ?_
   refine RemW.pos (by omega) (by omega) ?_
   try simp (maxSteps:=9^9) only[go_sem,hml]
   repeat refine AI ?_
   refine cw c2 ?_
   try simp (maxSteps:=9^9) only[go_sem]
   repeat refine AI ?_
   have hst:cntI l p (i+1)=min (cntI l p i) (sdP (nth (t:=tPoint) (l.map ptV) i) (nth (t:=tPoint) (l.map ptV) (((i:Int)+1) % (l.length:Int)).toNat) p):=by
    rw [nth_ptV hlt,nth_ptV hr2]; rfl
   refine LoopK.mk (i+1) ?_ (by omega) (by omega)
   rw [hst]
   exact WK
  ·rw [show l.length=i by omega]
   try simp (maxSteps:=9^9) only[go_sem]
   all_goals repeat refine AI ?_
   all_goals first|kernel_rfl|omega|rfl
theorem divO_none_l (y:Option Rat):divO none y=none:=rfl
theorem divO_none_r (x:Option Rat):divO x none=none:=by cases x<;>rfl
theorem divO_z (p:Rat) {q:Rat} (h:q=0):divO (some p) (some q)=none:=if_pos h
theorem divO_s {p q:Rat} (h:q ≠ 0):divO (some p) (some q)=capR (p / q):=by unfold divO; simp only; rw [if_neg h]
theorem okO_div (x y:Option Rat):okO (divO x y):=by
 unfold divO
 split
 ·split
  ·exact okO_none
  ·exact okO_cap _
 ·exact okO_none
theorem inv_mk {q:Rat} (h:q.num ≠ 0):q⁻¹=_root_.mkRat (if q.num < 0 then -(q.den:Int) else q.den) q.num.natAbs:=by
 rw [Rat.inv_def]
 split
 ·rename_i hn
  rw [<-Rat.neg_divInt_neg,show -q.num=((q.num.natAbs:Nat):Int) by omega,Rat.divInt_ofNat]
 ·rename_i hn
  rw [<-Rat.divInt_ofNat]
  congr 1
  omega
theorem div_mk {p q:Rat} (h:q.num ≠ 0):p / q=_root_.mkRat (p.num * (if q.num < 0 then -(q.den:Int) else q.den)) (p.den * q.num.natAbs):=by
 rw [Rat.div_def,inv_mk h]
 conv=>lhs; rw [<-Rat.mkRat_self p]
 rw [Rat.mkRat_mul_mkRat]
theorem sgn_divI {p q:Rat}:sgn (!decide (decide (p.num * (q.den:Int) < 0)=decide (q.num < 0))) (p.num * (q.den:Int)).natAbs=p.num * (if q.num < 0 then -(q.den:Int) else q.den):=by
 have hd:=den_pos' q
 unfold sgn
 by_cases h1:p.num * (q.den:Int) < 0
 ·by_cases h2:q.num < 0
  ·simp only [h1,h2,decide_true,Bool.not_true,Bool.false_eq_true,if_false,if_true]
   rw [Int.mul_neg]; omega
  ·simp only [h1,h2,decide_true,decide_false,Bool.true_eq_false,Bool.not_false,if_true,if_false]
   omega
 ·by_cases h2:q.num < 0
  ·simp only [h1,h2,decide_true,decide_false,Bool.false_eq_true,Bool.not_false,if_true]
   rw [Int.mul_neg]; omega
  ·simp only [h1,h2,decide_false,decide_true,Bool.not_true,Bool.false_eq_true,if_false]
   omega
theorem num_zero {q:Rat} (h:q.num=0):q=0:=by
 rw [<-Rat.mkRat_self q,h,Rat.zero_mkRat]
theorem ratDiv_fn (x y:Option Rat) (hx:okO x) (hy:okO y):Fn Tryz.prog 133 [⟨tRat,oD x⟩,⟨tRat,oD y⟩] true [⟨tRat,oD (divO x y)⟩]:=by
 cases x with
 | none =>
  refine fe Tryz.func133 Tryz.ntmps133 Tryz.results133 fun hwf=>?_
  try simp (maxSteps:=9^9) only[go_sem]
  repeat refine AI ?_
  refine cw isGood_n ?_
  try simp (maxSteps:=9^9) only[go_sem]
  try simp (maxSteps:=9^9) only[go_sem,divO_none_l]
 | some p =>
  cases y with
  | none =>
   refine fe Tryz.func133 Tryz.ntmps133 Tryz.results133 fun hwf=>?_
   try simp (maxSteps:=9^9) only[go_sem]
   repeat refine AI ?_
   refine cw (isGood_s p) ?_
   try simp (maxSteps:=9^9) only[go_sem]
   repeat refine AI ?_
   refine cw isGood_n ?_
   try simp (maxSteps:=9^9) only[go_sem]
   try simp (maxSteps:=9^9) only[go_sem,divO_none_r]
  | some q =>
   obtain ⟨p1,p2⟩:=hx p rfl
   obtain ⟨q1,q2⟩:=hy q rfl
   by_cases h0:q.num=0
   ·have e0:nl q.num.natAbs=0:=nl_eq_zero.2 (by omega)
    have d0:decide ((nl q.num.natAbs:Int)=0)=true:=decide_eq_true (by omega)
    rw [divO_z p (num_zero h0)]
    refine fe Tryz.func133 Tryz.ntmps133 Tryz.results133 fun hwf=>?_
    try simp (maxSteps:=9^9) only[go_sem]
    repeat refine AI ?_
    refine cw (isGood_s p) ?_
    try simp (maxSteps:=9^9) only[go_sem]
    repeat refine AI ?_
    refine cw (isGood_s q) ?_
    try simp (maxSteps:=9^9) only[go_sem]
    try simp (maxSteps:=9^9) only[go_sem,d0]
   ·have hq0:q ≠ 0:=fun h=>h0 (by rw [h]; rfl)
    have d0:decide ((nl q.num.natAbs:Int)=0)=false:=decide_eq_false (fun h=>h0 (by have:=nl_eq_zero.1 (show nl q.num.natAbs=0 by omega); omega))
    have b1:=nl_mulI p.num (q.den:Int)
    have b4:=nl_mul p.den q.num.natAbs
    rw [Int.natAbs_natCast] at b1
    have hz:=ratMake_end (p.num * (if q.num < 0 then -(q.den:Int) else q.den)) (p.den * q.num.natAbs) (Nat.mul_ne_zero p.den_nz (by omega)) (by
     rw [<-sgn_divI,sgn_abs]; omega) (by omega)
    rw [<-div_mk h0] at hz
    rw [divO_s hq0]
    have c3:=bigMulN_fn p.num q.den (by omega) (by omega)
    have c4:=bigMake_to (sgn_divI (p:=p) (q:=q))
    have c5:=natMul_fn p.den q.num.natAbs (by omega) (by omega)
    refine fe Tryz.func133 Tryz.ntmps133 Tryz.results133 fun hwf=>?_
    try simp (maxSteps:=9^9) only[go_sem]
    repeat refine AI ?_
    refine cw (isGood_s p) ?_
    try simp (maxSteps:=9^9) only[go_sem]
    repeat refine AI ?_
    refine cw (isGood_s q) ?_
    try simp (maxSteps:=9^9) only[go_sem]
    try simp (maxSteps:=9^9) only[go_sem,d0]
    repeat refine AI ?_
    refine cw c3 ?_
    try simp (maxSteps:=9^9) only[go_sem]
    repeat refine AI ?_
    repeat refine AI ?_
    refine cw c4 ?_
    try simp (maxSteps:=9^9) only[go_sem]
    repeat refine AI ?_
    refine cw c5 ?_
    try simp (maxSteps:=9^9) only[go_sem]
    repeat refine AI ?_
    refine cw hz ?_
    try simp (maxSteps:=9^9) only[go_sem]
    all_goals repeat refine AI ?_
    all_goals first|kernel_rfl|omega|rfl
def gP (p:DP):Prop:=∃ x y,okO x/\okO y/\p=(oD x,oD y)
theorem gP_1 {p:DP} (h:gP p):oD (rdO p.1)=p.1:=by
 obtain ⟨x,y,hx,hy,rfl⟩:=h
 show oD (rdO (oD x))=oD x
 rw [rdO_oD hx]
theorem gP_2 {p:DP} (h:gP p):oD (rdO p.2)=p.2:=by
 obtain ⟨x,y,hx,hy,rfl⟩:=h
 show oD (rdO (oD y))=oD y
 rw [rdO_oD hy]
theorem gP_mk {x y:Option Rat} (hx:okO x) (hy:okO y):gP (oD x,oD y):=⟨x,y,hx,hy,rfl⟩
theorem gP_ok {p:DP} (h:okPt p=true):gP p:=by
 obtain ⟨p1,p2⟩:=Bool.and_eq_true_iff.1 (show (okR p.1 && okR p.2)=true from h)
 exact ⟨rdO p.1,rdO p.2,okO_rdO _,okO_rdO _,by rw [okR_oD p1,okR_oD p2]⟩
noncomputable def sqD (p q:DP):Option Rat:=addO (mulO (subO (rdO p.1) (rdO q.1)) (subO (rdO p.1) (rdO q.1))) (mulO (subO (rdO p.2) (rdO q.2)) (subO (rdO p.2) (rdO q.2)))
theorem okO_sqD (p q:DP):okO (sqD p q):=okO_add _ _
theorem squareDistance_fn (p q:DP) (hp:gP p) (hq:gP q):Fn Tryz.prog 199 [⟨tPoint,p⟩,⟨tPoint,q⟩] true [⟨tRat,oD (sqD p q)⟩]:=by
 have c1:=ratSub_fn (rdO p.1) (rdO q.1) (okO_rdO _) (okO_rdO _)
 have c2:=ratSub_fn (rdO p.2) (rdO q.2) (okO_rdO _) (okO_rdO _)
 rw [gP_1 hp,gP_1 hq] at c1
 rw [gP_2 hp,gP_2 hq] at c2
 have c3:=ratMul_fn _ _ (okO_sub (rdO p.1) (rdO q.1)) (okO_sub (rdO p.1) (rdO q.1))
 have c4:=ratMul_fn _ _ (okO_sub (rdO p.2) (rdO q.2)) (okO_sub (rdO p.2) (rdO q.2))
 have c5:=ratAdd_fn _ _ (okO_mul (subO (rdO p.1) (rdO q.1)) (subO (rdO p.1) (rdO q.1))) (okO_mul (subO (rdO p.2) (rdO q.2)) (subO (rdO p.2) (rdO q.2)))
 unfold sqD
 refine fe Tryz.func199 Tryz.ntmps199 Tryz.results199 fun hwf=>?_
 try simp (maxSteps:=9^9) only[go_sem]
 repeat refine AI ?_
 refine cw c1 ?_
 try simp (maxSteps:=9^9) only[go_sem]
 repeat refine AI ?_
 refine cw c2 ?_
 try simp (maxSteps:=9^9) only[go_sem]
 repeat refine AI ?_
 repeat refine AI ?_
 refine cw c3 ?_
 try simp (maxSteps:=9^9) only[go_sem]
 repeat refine AI ?_
 refine cw c4 ?_
 try simp (maxSteps:=9^9) only[go_sem]
 repeat refine AI ?_
 refine cw c5 ?_
 try simp (maxSteps:=9^9) only[go_sem]
 all_goals repeat refine AI ?_
 all_goals first|kernel_rfl|omega|rfl
noncomputable def inD (a b c:DP):Option Rat:=addO (mulO (subO (rdO b.1) (rdO a.1)) (subO (rdO c.1) (rdO a.1))) (mulO (subO (rdO b.2) (rdO a.2)) (subO (rdO c.2) (rdO a.2)))
theorem okO_inD (a b c:DP):okO (inD a b c):=okO_add _ _
theorem inner_fn (a b c:DP) (ha:gP a) (hb:gP b) (hc:gP c):Fn Tryz.prog 200 [⟨tPoint,a⟩,⟨tPoint,b⟩,⟨tPoint,c⟩] true [⟨tRat,oD (inD a b c)⟩]:=by
 have c1:=ratSub_fn (rdO b.1) (rdO a.1) (okO_rdO _) (okO_rdO _)
 have c2:=ratSub_fn (rdO c.1) (rdO a.1) (okO_rdO _) (okO_rdO _)
 have c3:=ratSub_fn (rdO b.2) (rdO a.2) (okO_rdO _) (okO_rdO _)
 have c4:=ratSub_fn (rdO c.2) (rdO a.2) (okO_rdO _) (okO_rdO _)
 rw [gP_1 hb,gP_1 ha] at c1
 rw [gP_1 hc,gP_1 ha] at c2
 rw [gP_2 hb,gP_2 ha] at c3
 rw [gP_2 hc,gP_2 ha] at c4
 have c5:=ratMul_fn _ _ (okO_sub (rdO b.1) (rdO a.1)) (okO_sub (rdO c.1) (rdO a.1))
 have c6:=ratMul_fn _ _ (okO_sub (rdO b.2) (rdO a.2)) (okO_sub (rdO c.2) (rdO a.2))
 have c7:=ratAdd_fn _ _ (okO_mul (subO (rdO b.1) (rdO a.1)) (subO (rdO c.1) (rdO a.1))) (okO_mul (subO (rdO b.2) (rdO a.2)) (subO (rdO c.2) (rdO a.2)))
 unfold inD
 refine fe Tryz.func200 Tryz.ntmps200 Tryz.results200 fun hwf=>?_
 try simp (maxSteps:=9^9) only[go_sem]
 repeat refine AI ?_
 refine cw c1 ?_
 try simp (maxSteps:=9^9) only[go_sem]
 repeat refine AI ?_
 refine cw c2 ?_
 try simp (maxSteps:=9^9) only[go_sem]
 repeat refine AI ?_
 refine cw c5 ?_
 try simp (maxSteps:=9^9) only[go_sem]
 repeat refine AI ?_
 refine cw c3 ?_
 try simp (maxSteps:=9^9) only[go_sem]
 repeat refine AI ?_
 refine cw c4 ?_
 try simp (maxSteps:=9^9) only[go_sem]
 repeat refine AI ?_
 refine cw c6 ?_
 try simp (maxSteps:=9^9) only[go_sem]
 repeat refine AI ?_
 refine cw c7 ?_
 try simp (maxSteps:=9^9) only[go_sem]
 all_goals repeat refine AI ?_
 all_goals first|kernel_rfl|omega|rfl
theorem nth_memT {t:Ty} {l:List t.den} {i:Nat} (h:i < l.length):nth l i ∈ l:=by rw [nth_lt h]; exact List.getElem_mem h
theorem indexFunc_vecC_fn (F:FuncId) (A:Ty) (x:A.den) (p:DV->Bool) (l:List DV) (hF:∀ y ∈ l,Fn Tryz.prog F (⟨tVec,y⟩ :: capD A x) false [⟨.bool,p y⟩]):Fn Tryz.prog 117 [⟨.slice tVec,l⟩,⟨.ext (.clo F) A,some x⟩] false [⟨.int,ixf (t:=tVec) p l⟩]:=by
 refine fe Tryz.func117 Tryz.ntmps117 Tryz.results117 fun hwf=>?_
 have hl:l.length<=9223372036854775807:=(hwf ⟨.slice tVec,l⟩ (by simp)).1
 try simp (maxSteps:=9^9) only[go_sem]
 refine LoopG.intro _ _ _ (fun i:Nat=>⟨[(0,.sl tVec l),(1,.ex (.clo F) A (some x)),(7,.sc (.int .i64 l.length)),(8,.sc (.int .i64 i))],[]⟩) (fun i=>∀ j < i,j < l.length->p (nth (t:=tVec) l j)=false) (fun i=>l.length - i) 0 ?_ (fun j h=>by simp at h) ?_
 ·exact WK
 ·rintro i h2
  try simp (maxSteps:=9^9) only[go_sem]
  refine CondW_dec (fun h3=>?_) (fun h3=>?_)
  ·have c1:=hF (nth (t:=tVec) l i) (nth_memT (t:=tVec) (by omega))
   try simp (maxSteps:=9^9) only[go_sem]
   repeat refine AI ?_
   repeat refine AI ?_
   refine CallD.mk (c1) ?_
   try simp (maxSteps:=9^9) only[go_sem]
   refine CondW_b (fun h4=>?_) (fun h4=>?_)
   ·try simp (maxSteps:=9^9) only[go_sem]
    exact (ixf_at (by omega) h4 (fun j hj=>h2 j hj (by omega))).symm
   ·try simp (maxSteps:=9^9) only[go_sem]
    repeat refine AI ?_
    refine LoopK.mk (i+1) ?_ (fun j hj hl=>?_) (by omega)
    ·exact WK
    ·by_cases hj2:j < i
     ·exact h2 j hj2 hl
     ·rw [show j=i by omega]; exact h4
  ·try simp (maxSteps:=9^9) only[go_sem]
   exact (ixf_none fun j hj=>h2 j (by omega) hj).symm
theorem containsFunc_vecC_fn (F:FuncId) (A:Ty) (x:A.den) (p:DV->Bool) (l:List DV) (hF:∀ y ∈ l,Fn Tryz.prog F (⟨tVec,y⟩ :: capD A x) false [⟨.bool,p y⟩]):Fn Tryz.prog 77 [⟨.slice tVec,l⟩,⟨.ext (.clo F) A,some x⟩] false [⟨.bool,l.any p⟩]:=by
 have c1:=indexFunc_vecC_fn F A x p l hF
 refine fe Tryz.func77 Tryz.ntmps77 Tryz.results77 fun hwf=>?_
 try simp (maxSteps:=9^9) only[go_sem]
 repeat refine AI ?_
 refine cw c1 ?_
 try simp (maxSteps:=9^9) only[go_sem]
 exact ixf_any
theorem areInC_fn (k:Int) (hk:0<=k/\k<=1000000) (v:DV):Fn Tryz.prog 78 [⟨tVec,v⟩,⟨.ext .ref .int,some k⟩] false [⟨.bool,!inB k v⟩]:=by
 have c1:=within_fn v.1 (-k) k
 have c2:=within_fn v.2 (-k) k
 unfold inB
 cases h:decide (-k<=v.1/\v.1<=k)<;>rw [h] at c1
 ·refine fe Tryz.func78 Tryz.ntmps78 Tryz.results78 fun hwf=>?_
  try simp (maxSteps:=9^9) only[go_sem]
  repeat refine AI ?_
  repeat refine AI ?_
  refine cw c1 ?_
  try simp (maxSteps:=9^9) only[go_sem]
  all_goals repeat refine AI ?_
  all_goals first|kernel_rfl|omega|rfl
 ·refine fe Tryz.func78 Tryz.ntmps78 Tryz.results78 fun hwf=>?_
  try simp (maxSteps:=9^9) only[go_sem]
  repeat refine AI ?_
  repeat refine AI ?_
  refine cw c1 ?_
  try simp (maxSteps:=9^9) only[go_sem]
  repeat refine AI ?_
  repeat refine AI ?_
  refine cw c2 ?_
  try simp (maxSteps:=9^9) only[go_sem]
  all_goals repeat refine AI ?_
  all_goals first|kernel_rfl|omega|rfl
theorem areIn_fn (k:Int) (hk:0<=k/\k<=1000000) (l:List DV):Fn Tryz.prog 37 [⟨.int,k⟩,⟨.slice tVec,l⟩] false [⟨.bool,!(l.any fun v=>!inB k v)⟩]:=by
 have c1:=containsFunc_vecC_fn 78 (.ext .ref .int) (some k) (fun v=>!inB k v) l (fun y _=>areInC_fn k hk y)
 refine fe Tryz.func37 Tryz.ntmps37 Tryz.results37 fun hwf=>?_
 try simp (maxSteps:=9^9) only[go_sem]
 repeat refine AI ?_
 repeat refine AI ?_
 refine CallK.mk (c1) ?_
 try simp (maxSteps:=9^9) only[go_sem]
 all_goals repeat refine AI ?_
 all_goals first|kernel_rfl|omega|rfl
def allIn (k:Int) (l:List DV):Bool:=!(l.any fun v=>!inB k v)
theorem allIn_t {k:Int} {l:List DV} (h:∀ i,i < l.length->inB k (nth (t:=tVec) l i)=true):allIn k l=true:=by
 unfold allIn
 rw [Bool.not_eq_true',List.any_eq_false]
 intro v hv
 obtain ⟨i,hi,rfl⟩:=List.getElem_of_mem hv
 have:=h i hi
 rw [nth_lt hi] at this
 rw [this]; decide
noncomputable def smB (l:List DV) (k:Int):Bool:=decide ((l.length:Int)<=5) && (polyB l && allIn k l)
theorem isSmall_fn (l:List DV) (k:Int) (hk:0<=k/\k<=1000000):Fn Tryz.prog 38 [⟨.slice tVec,l⟩,⟨.int,k⟩] false [⟨.bool,smB l k⟩]:=by
 have c1:=implIsPolygon_fn l
 unfold smB
 cases h1:decide ((l.length:Int)<=5)
 ·refine fe Tryz.func38 Tryz.ntmps38 Tryz.results38 fun hwf=>?_
  try simp (maxSteps:=9^9) only[go_sem,h1]
 ·cases h2:polyB l<;>rw [h2] at c1
  ·refine fe Tryz.func38 Tryz.ntmps38 Tryz.results38 fun hwf=>?_
   try simp (maxSteps:=9^9) only[go_sem,h1]
   repeat refine AI ?_
   refine cw c1 ?_
   try simp (maxSteps:=9^9) only[go_sem]
  ·have c2:Fn Tryz.prog 37 [⟨.int,k⟩,⟨.slice tVec,l⟩] false [⟨.bool,allIn k l⟩]:=areIn_fn k hk l
   refine fe Tryz.func38 Tryz.ntmps38 Tryz.results38 fun hwf=>?_
   try simp (maxSteps:=9^9) only[go_sem,h1]
   repeat refine AI ?_
   refine cw c1 ?_
   try simp (maxSteps:=9^9) only[go_sem]
   repeat refine AI ?_
   refine cw c2 ?_
   try simp (maxSteps:=9^9) only[go_sem]
end Go.Proofs.YtcbionahcldlnaaGreat.DW

namespace Go.Proofs.YtcbionahcldlnaaGreat
open Go.RowKit
set_option maxHeartbeats 400000 in
theorem slicesEqual_any (va vb:Value) (a b:DIntS) (w:World) (ha:Has RIntS w [va] a) (hb:Has RIntS w [vb] b) :
  Calls Tryz.prog 30 #[va,vb] w (Post (EqPost a b w)):=by
 obtain ⟨aa,ca,rfl,la,ma,ga⟩:=ha.elems
 obtain ⟨ab,cb,rfl,lb,mb,gb⟩:=hb.elems
 unfold maxLen at ma mb
 have HA:=Lib.hid ga; have HB:=Lib.hid gb; clear ga gb ha hb
 by_cases hl:a.length=b.length
 rotate_left
 ·have hn:((a.length:Int) != (b.length:Int))=true:=by simp; omega
  have HL:=Lib.hid hl; clear hl
  go_enter Tryz.func30,Tryz.ntmps30
  go_wp2
  go_ret
  exact ⟨_,rfl,congrArg Value.bool (eqb_false fun h=>HL.out (by rw [h])).symm,Below.refl _ _⟩
 have hn:((a.length:Int) != (b.length:Int))=false:=by simp; omega
 have HL:=Lib.hid hl; clear hl
 go_enter Tryz.func30,Tryz.ntmps30
 go_wp2
 go_loopw [13] (fun i wr=>∃ k:Nat,k<=a.length/\i=.int .i64 k/\a.take k=b.take k/\Below w.heap.size w wr) (fun i _=>a.length - (intOf i).toNat)
 case atStart=>exact ⟨0,Nat.zero_le _,rfl,rfl,Below.refl _ _⟩
 case round =>
  obtain ⟨k,hk,rfl,htk,hbw⟩:=hrel
  have HT:=Lib.hid htk; clear htk
  by_cases hlt:k < a.length
  rotate_left
  ·go_wp2
   go_ret
   exact ⟨_,rfl,congrArg Value.bool (eqb_true (by have h1:=HT.out; have h2:=HL.out; rwa [List.take_of_length_le (by omega),List.take_of_length_le (by omega)] at h1)).symm,hbw⟩
  have hlt':k < b.length:=by have:=HL.out; omega
  obtain ⟨b1,o1,cs1,rfl,hbl,hx,hcs⟩:=HA.out k hlt
  obtain ⟨b2,o2,cs2,rfl,hbl2,hy,hds⟩:=HB.out k hlt'
  obtain ⟨c0,rfl⟩:=list1 hx.len
  obtain ⟨d0,rfl⟩:=list1 hy.len
  obtain rfl:=hx.int.1
  obtain rfl:=hy.int.1
  have g0:wr.cell? ⟨b1,o1+k,none⟩=some (.int .i64 a[k]):=(hbw.cell (p:=⟨b1,_,none⟩) hbl).trans (by simpa [Rp.int] using hcs 0 _ rfl)
  have e0:wr.cell? ⟨b2,o2+k,none⟩=some (.int .i64 b[k]):=(hbw.cell (p:=⟨b2,_,none⟩) hbl2).trans (by simpa [Rp.int] using hds 0 _ rfl)
  clear hcs hds hx hy
  by_cases hab:a[k]=b[k]
  ·have hn:(a[k] != b[k])=false:=by simp [hab]
   have HAB:=Lib.hid hab; clear hab
   go_wp2
   go_quiet (fail)
   go_wp2
   go_roundw
   case rel=>exact ⟨k+1,by omega,by go_num,by rw [List.take_succ_eq_append_getElem hlt,List.take_succ_eq_append_getElem hlt',HT.out,HAB.out],hbw.drewN _⟩
   case measure=>simp [intOf]; omega
  ·have hn:(a[k] != b[k])=true:=by simp [hab]
   have HAB:=Lib.hid hab; clear hab
   go_wp2
   go_quiet (fail)
   go_wp2
   go_ret
   exact ⟨_,rfl,congrArg Value.bool (eqb_false fun h=>HAB.out (by subst h; rfl)).symm,hbw.drewN _⟩
set_option maxHeartbeats 400000 in
theorem implRatEqual_any (c0 c1 c2 d0 d1 d2:Value) (x y:DRat) (w:World) (hx:Has RRat w [c0,c1,c2] x) (hy:Has RRat w [d0,d1,d2] y) :
  Calls Tryz.prog 112 #[.agg #[c0,c1,c2],.agg #[d0,d1,d2]] w (Post (EqPost x y w)):=by
 obtain ⟨hx0,hx1⟩:=hx.split [c0,c1] [c2] rfl
 obtain ⟨hx00,hx01⟩:=hx0.split [c0] [c1] rfl
 obtain ⟨hy0,hy1⟩:=hy.split [d0,d1] [d2] rfl
 obtain ⟨hy00,hy01⟩:=hy0.split [d0] [d1] rfl
 obtain rfl:=hx00.bool
 obtain rfl:=hy00.bool
 have HX1:=Lib.hid hx1; have HX2:=Lib.hid hx01; have HY1:=Lib.hid hy1; have HY2:=Lib.hid hy01
 clear hx hy hx0 hx1 hy0 hy1 hx00 hx01 hy00 hy01
 have hb0:=((Below.refl w.heap.size w).alloc (Nat.le_refl _) (Obj.cells #[.bool x.1.1,c1,c2] 90)).alloc (by simp<;>omega) (Obj.cells #[.bool y.1.1,d1,d2] 90)
 by_cases he0:x.1.1=y.1.1
 rotate_left
 ·have hn:(x.1.1 == y.1.1)=false:=by simp [he0]
  have HN:=Lib.hid he0; clear he0
  go_enter Tryz.func112,Tryz.ntmps112
  go_wp2
  go_ret
  exact ⟨_,rfl,congrArg Value.bool (eqb_false fun h=>HN.out (by rw [h])).symm,hb0⟩
 have hn0:(x.1.1 == y.1.1)=true:=by simp [he0]
 have HE0:=Lib.hid he0; clear he0
 go_enter Tryz.func112,Tryz.ntmps112
 go_wp2_with fail
 refine (slicesEqual_any _ _ _ _ _ (HX2.out.below hb0) (HY2.out.below hb0)).mono ?_
 rintro e w1 ⟨v,rfl,rfl,hbx1⟩
 have hb1:=Below.up hb0 hbx1 hb0.size
 obtain ⟨hc1,hf1⟩:=bcell hbx1
 by_cases he1:x.1.2=y.1.2
 rotate_left
 ·rw [eqb_false he1]
  have HN:=Lib.hid he1; clear he1
  go_wp2
  go_ret
  exact ⟨_,rfl,congrArg Value.bool (eqb_false fun h=>HN.out (by rw [h])).symm,hb1⟩
 rw [eqb_true he1]
 have HE1:=Lib.hid he1; clear he1
 go_wp2_with fail
 refine (slicesEqual_any _ _ _ _ _ (HX1.out.below hb1) (HY1.out.below hb1)).mono ?_
 rintro e w2 ⟨v,rfl,rfl,hbx2⟩
 have hb2:=Below.up hb1 hbx2 hb1.size
 by_cases he2:x.2=y.2
 rotate_left
 ·rw [eqb_false he2]
  have HN:=Lib.hid he2; clear he2
  go_wp2
  go_ret
  exact ⟨_,rfl,congrArg Value.bool (eqb_false fun h=>HN.out (by rw [h])).symm,hb2⟩
 rw [eqb_true he2]
 have HE2:=Lib.hid he2; clear he2
 go_wp2
 go_ret
 exact ⟨_,rfl,congrArg Value.bool (eqb_true (Prod.ext (Prod.ext HE0.out HE1.out) HE2.out)).symm,hb2⟩
set_option maxHeartbeats 400000 in
theorem implSamePoint_any (c0 c1 c2 c3 c4 c5 d0 d1 d2 d3 d4 d5:Value) (x y:DPoint) (w:World) (hx:Has RPoint w [c0,c1,c2,c3,c4,c5] x) (hy:Has RPoint w [d0,d1,d2,d3,d4,d5] y) :
  Calls Tryz.prog 198 #[.agg #[c0,c1,c2,c3,c4,c5],.agg #[d0,d1,d2,d3,d4,d5]] w (Post (EqPost x y w)):=by
 obtain ⟨hx0,hx1⟩:=hx.split [c0,c1,c2] [c3,c4,c5] rfl
 obtain ⟨hy0,hy1⟩:=hy.split [d0,d1,d2] [d3,d4,d5] rfl
 have HX0:=Lib.hid hx0; have HX1:=Lib.hid hx1; have HY0:=Lib.hid hy0; have HY1:=Lib.hid hy1
 clear hx hy hx0 hx1 hy0 hy1
 have hb0:=((Below.refl w.heap.size w).alloc (Nat.le_refl _) (Obj.cells #[c0,c1,c2,c3,c4,c5] 103)).alloc (by simp<;>omega) (Obj.cells #[d0,d1,d2,d3,d4,d5] 103)
 go_enter Tryz.func198,Tryz.ntmps198
 go_wp2_with fail
 refine (implRatEqual_any _ _ _ _ _ _ _ _ _ (HX0.out.below hb0) (HY0.out.below hb0)).mono ?_
 rintro e w1 ⟨v,rfl,rfl,hbx1⟩
 have hb1:=Below.up hb0 hbx1 hb0.size
 obtain ⟨hc1,hf1⟩:=bcell hbx1
 by_cases he1:x.1=y.1
 rotate_left
 ·rw [eqb_false he1]
  have HN:=Lib.hid he1; clear he1
  go_wp2
  go_ret
  exact ⟨_,rfl,congrArg Value.bool (eqb_false fun h=>HN.out (by rw [h])).symm,hb1⟩
 rw [eqb_true he1]
 have HE1:=Lib.hid he1; clear he1
 go_wp2_with fail
 refine (implRatEqual_any _ _ _ _ _ _ _ _ _ (HX1.out.below hb1) (HY1.out.below hb1)).mono ?_
 rintro e w2 ⟨v,rfl,rfl,hbx2⟩
 have hb2:=Below.up hb1 hbx2 hb1.size
 by_cases he2:x.2=y.2
 rotate_left
 ·rw [eqb_false he2]
  have HN:=Lib.hid he2; clear he2
  go_wp2
  go_ret
  exact ⟨_,rfl,congrArg Value.bool (eqb_false fun h=>HN.out (by rw [h])).symm,hb2⟩
 rw [eqb_true he2]
 have HE2:=Lib.hid he2; clear he2
 go_wp2
 go_ret
 exact ⟨_,rfl,congrArg Value.bool (eqb_true (Prod.ext HE1.out HE2.out)).symm,hb2⟩
end Go.Proofs.YtcbionahcldlnaaGreat

namespace Go.Proofs.YtcbionahcldlnaaGreat
open Go.RowKit
theorem infoint:(Tryz.prog.info? 3).map (fun i=>(i.zero,i.size,i.bytes))=some (some (.int .i64 0),1,8):=by kernel_rfl
end Go.Proofs.YtcbionahcldlnaaGreat

namespace Go.Proofs.YtcbionahcldlnaaGreat
open Go.RowKit
end Go.Proofs.YtcbionahcldlnaaGreat

namespace Go.Proofs.YtcbionahcldlnaaGreat.DW
open Go.RowKit
theorem implSame_fn (p q:DP):Fn Tryz.prog 198 [⟨tPoint,p⟩,⟨tPoint,q⟩] false [⟨.bool,eqb p q⟩]:=by
 refine Fn.ofEq (enters Tryz.func198 rfl rfl) fun w v cs u ds hp hx hq hy=>?_
 obtain rfl:=pk_agg rfl hp
 obtain ⟨c0,c1,c2,c3,c4,c5,rfl⟩:=list6 hx.len
 obtain rfl:=pk_agg rfl hq
 obtain ⟨d0,d1,d2,d3,d4,d5,rfl⟩:=list6 hy.len
 exact implSamePoint_any _ _ _ _ _ _ _ _ _ _ _ _ p q w hx hy
noncomputable def oneO:Option Rat:=some (((1:Int)):Rat)
noncomputable def zeroO:Option Rat:=some (((0:Int)):Rat)
theorem ratI_1:ratI 1=oD oneO:=ratI_eq 1
theorem ratI_z:ratI 0=oD zeroO:=ratI_eq 0
theorem ok_small {n:Int} (h:n.natAbs<=1000000):okO (some ((n:Int):Rat)):=by
 intro q hq; injection hq with hq; subst hq
 exact ⟨Nat.le_trans (nl_small (n:=n.natAbs) (by omega)) (by decide),Nat.le_trans (nl_small (n:=1) (by decide)) (by decide)⟩
theorem okO_one:okO oneO:=ok_small (by decide)
theorem okO_zero:okO zeroO:=ok_small (by decide)
theorem ratLt_as {p q:Rat} (h1:p < q):¬ q < p:=fun h=>absurd (Rat.le_of_lt h) (Rat.not_le.2 h1)
theorem minO_comm (x y:Option Rat):minO x y=minO y x:=by
 cases x with
 | none=>cases y<;>rfl
 | some p =>
  cases y with
  | none=>rfl
  | some q =>
   show (if cmpQ p q<=0 then some p else some q)=(if cmpQ q p<=0 then some q else some p)
   unfold cmpQ
   by_cases h1:p < q
   ·have h2:¬ q < p:=ratLt_as h1
    simp [h1,h2]
   ·by_cases h2:q < p
    ·simp [h1,h2]
    ·simp [h1,h2]
     exact Rat.le_antisymm (Rat.not_lt.1 h2) (Rat.not_lt.1 h1)
noncomputable def tD (p a b:DP):Option Rat:=minO oneO (maxO zeroO (divO (inD a p b) (sqD a b)))
noncomputable def nearD (a b:DP) (t:Option Rat):DP:=(oD (addO (rdO a.1) (mulO t (subO (rdO b.1) (rdO a.1)))),oD (addO (rdO a.2) (mulO t (subO (rdO b.2) (rdO a.2)))))
noncomputable def segD (p a b:DP):Option Rat:=if eqb a b then sqD p a else sqD p (nearD a b (tD p a b))
theorem okO_segD (p a b:DP):okO (segD p a b):=by unfold segD; split<;>exact okO_sqD _ _
theorem okO_tD (p a b:DP):okO (tD p a b):=okO_min okO_one (okO_max okO_zero (okO_div _ _))
theorem gP_near (a b:DP) (t:Option Rat):gP (nearD a b t):=gP_mk (okO_add _ _) (okO_add _ _)
set_option maxHeartbeats 1000000 in
theorem toSegment_fn (p a b:DP) (hp:gP p) (ha:gP a) (hb:gP b):Fn Tryz.prog 164 [⟨tPoint,p⟩,⟨tPoint,a⟩,⟨tPoint,b⟩] true [⟨tRat,oD (segD p a b)⟩]:=by
 have c0:=implSame_fn a b
 unfold segD
 cases h:eqb a b<;>rw [h] at c0
 ·rw [if_neg (by decide)]
  have c1:=inner_fn a p b ha hp hb
  have c2:=squareDistance_fn a b ha hb
  have c3:=ratDiv_fn (inD a p b) (sqD a b) (okO_inD _ _ _) (okO_sqD _ _)
  have c4:=ratInt_fn 1
  have c5:=ratInt_fn 0
  rw [ratI_1] at c4
  rw [ratI_z] at c5
  have c6:=ratMax_fn zeroO (divO (inD a p b) (sqD a b)) okO_zero (okO_div _ _)
  have c7:=ratMin_fn oneO (maxO zeroO (divO (inD a p b) (sqD a b))) okO_one (okO_max okO_zero (okO_div _ _))
  have e7:minO oneO (maxO zeroO (divO (inD a p b) (sqD a b)))=tD p a b:=rfl
  rw [e7] at c7
  have c8:=ratSub_fn (rdO b.1) (rdO a.1) (okO_rdO _) (okO_rdO _)
  have c9:=ratMul_fn (tD p a b) (subO (rdO b.1) (rdO a.1)) (okO_tD _ _ _) (okO_sub _ _)
  have c10:=ratAdd_fn (rdO a.1) (mulO (tD p a b) (subO (rdO b.1) (rdO a.1))) (okO_rdO _) (okO_mul _ _)
  have c11:=ratSub_fn (rdO b.2) (rdO a.2) (okO_rdO _) (okO_rdO _)
  have c12:=ratMul_fn (tD p a b) (subO (rdO b.2) (rdO a.2)) (okO_tD _ _ _) (okO_sub _ _)
  have c13:=ratAdd_fn (rdO a.2) (mulO (tD p a b) (subO (rdO b.2) (rdO a.2))) (okO_rdO _) (okO_mul _ _)
  rw [gP_1 ha,gP_1 hb] at c8
  rw [gP_1 ha] at c10
  rw [gP_2 ha,gP_2 hb] at c11
  rw [gP_2 ha] at c13
  have c14:=squareDistance_fn p (nearD a b (tD p a b)) hp (gP_near _ _ _)
  unfold nearD at c14 ⊢
  generalize tD p a b=t at c7 c9 c10 c12 c13 c14 ⊢
  generalize divO (inD a p b) (sqD a b)=dv at c3 c6 c7
  refine fe Tryz.func164 Tryz.ntmps164 Tryz.results164 fun hwf=>?_
  try simp (maxSteps:=9^9) only[go_sem]
  repeat refine AI ?_
  refine cw c0 ?_
  try simp (maxSteps:=9^9) only[go_sem]
  repeat refine AI ?_
  repeat refine AI ?_
  refine cw c1 ?_
  try simp (maxSteps:=9^9) only[go_sem]
  repeat refine AI ?_
  refine cw c2 ?_
  try simp (maxSteps:=9^9) only[go_sem]
  repeat refine AI ?_
  refine cw c3 ?_
  try simp (maxSteps:=9^9) only[go_sem]
  repeat refine AI ?_
  repeat refine AI ?_
  refine cw c4 ?_
  try simp (maxSteps:=9^9) only[go_sem]
  repeat refine AI ?_
  refine cw c5 ?_
  try simp (maxSteps:=9^9) only[go_sem]
  repeat refine AI ?_
  refine cw c6 ?_
  try simp (maxSteps:=9^9) only[go_sem]
  repeat refine AI ?_
  refine cw c7 ?_
  try simp (maxSteps:=9^9) only[go_sem]
  repeat refine AI ?_
  repeat refine AI ?_
  refine cw c8 ?_
  try simp (maxSteps:=9^9) only[go_sem]
  repeat refine AI ?_
  refine cw c9 ?_
  try simp (maxSteps:=9^9) only[go_sem]
  repeat refine AI ?_
  refine cw c10 ?_
  try simp (maxSteps:=9^9) only[go_sem]
  repeat refine AI ?_
  refine cw c11 ?_
  try simp (maxSteps:=9^9) only[go_sem]
  repeat refine AI ?_
  refine cw c12 ?_
  try simp (maxSteps:=9^9) only[go_sem]
  repeat refine AI ?_
  refine cw c13 ?_
  try simp (maxSteps:=9^9) only[go_sem]
  repeat refine AI ?_
  repeat refine AI ?_
  refine cw c14 ?_
  try simp (maxSteps:=9^9) only[go_sem]
  all_goals repeat refine AI ?_
  all_goals first|kernel_rfl|omega|rfl
 ·rw [if_pos rfl]
  have c1:=squareDistance_fn p a hp ha
  refine fe Tryz.func164 Tryz.ntmps164 Tryz.results164 fun hwf=>?_
  try simp (maxSteps:=9^9) only[go_sem]
  repeat refine AI ?_
  refine cw c0 ?_
  try simp (maxSteps:=9^9) only[go_sem]
  repeat refine AI ?_
  refine cw c1 ?_
  try simp (maxSteps:=9^9) only[go_sem]
  all_goals repeat refine AI ?_
  all_goals first|kernel_rfl|omega|rfl
@[go_sem] theorem bts_Edge:bts Tryz.prog 139=some 48:=by kernel_rfl
@[go_sem] theorem bts_Bord:bts Tryz.prog 145=some 112:=by kernel_rfl
@[go_sem] theorem bts_Blck:bts Tryz.prog 152=some 224:=by kernel_rfl
@[go_sem] theorem bts_Cell:bts Tryz.prog 93=some 336:=by kernel_rfl
@[go_sem] theorem bts_Wall:bts Tryz.prog 95=some 168:=by kernel_rfl
@[go_sem] theorem bts_Door:bts Tryz.prog 98=some 16:=by kernel_rfl
@[go_sem] theorem bts_Slice:bts Tryz.prog 57=some 168:=by kernel_rfl
abbrev DE:=tEdge.den
def ltI (a b:Int):Bool:=decide (a < b)
theorem ltI_t {a b:Int} (h:a < b):ltI a b=true:=decide_eq_true h
theorem ltI_p {a b:Int} (h:ltI a b=true):a < b:=of_decide_eq_true h
def vE (e:DE):Bool:=okV e.1 && okV e.2.1 && ltI e.1.1 e.2.1.1
theorem vE_of {a b:DV} {n:Int} {lw:Bool} (h1:okV a=true) (h2:okV b=true) (h3:@LT.lt Int _ a.1 b.1):vE (a,b,n,lw)=true:=by
 show (okV a && okV b && ltI a.1 b.1)=true
 rw [h1,h2,ltI_t h3]; rfl
theorem vE_p {a b:DV} {n:Int} {lw:Bool} (h:vE (a,b,n,lw)=true):okV a=true/\okV b=true/\@LT.lt Int _ a.1 b.1:=by
 have h:(okV a && okV b && ltI a.1 b.1)=true:=h
 rw [Bool.and_eq_true,Bool.and_eq_true] at h
 exact ⟨h.1.1,h.1.2,ltI_p h.2⟩
theorem IsValidEdge_fn (e:DE):Fn Tryz.prog 130 [⟨tEdge,e⟩] false [⟨.bool,vE e⟩]:=by
 obtain ⟨a,b,n,lw⟩:=e
 have c1:=areVecs_fn [a,b]
 have e1:(!([a,b].any fun v=>!okV v))=(okV a && okV b):=by simp [List.any]
 rw [e1] at c1
 show Fn _ _ _ _ [⟨.bool,okV a && okV b && ltI a.1 b.1⟩]
 cases h1:(okV a && okV b)
 ·rw [h1] at c1
  refine fe Tryz.func130 Tryz.ntmps130 Tryz.results130 fun hwf=>?_
  try simp (maxSteps:=9^9) only[go_sem]
  repeat refine AI ?_
  repeat refine AI ?_
  refine cw c1 ?_
  try simp (maxSteps:=9^9) only[go_sem]
  all_goals repeat refine AI ?_
  all_goals first|kernel_rfl|omega|rfl
 ·rw [h1] at c1
  unfold ltI
  refine fe Tryz.func130 Tryz.ntmps130 Tryz.results130 fun hwf=>?_
  try simp (maxSteps:=9^9) only[go_sem]
  repeat refine AI ?_
  repeat refine AI ?_
  refine cw c1 ?_
  try simp (maxSteps:=9^9) only[go_sem]
  all_goals repeat refine AI ?_
  all_goals first|kernel_rfl|omega|rfl
noncomputable def inQ (n:Int):Option Rat:=some ((n:Int):Rat)
theorem ratInQ_fn (n:Int):Fn Tryz.prog 86 [⟨.int,n⟩] true [⟨tRat,oD (inQ n)⟩]:=by
 have h:=ratInt_fn n
 rwa [show ratI n=oD (inQ n) from ratI_eq n] at h
theorem okO_in {n:Int} (h:n.natAbs<=1000000):okO (inQ n):=by
 exact ok_small h
noncomputable def slO (e:DE):Option Rat:=capR (((e.2.1.2 - e.1.2:Int):Rat) / ((e.2.1.1 - e.1.1:Int):Rat))
theorem okO_sl (e:DE):okO (slO e):=okO_cap _
noncomputable def htO (e:DE) (x:Option Rat):Option Rat:=addO (inQ e.1.2) (mulO (slO e) (subO x (inQ e.1.1)))
theorem okO_ht (e:DE) (x:Option Rat):okO (htO e x):=okO_add _ _
noncomputable def spB (e:DE) (lo hi:Option Rat):Bool:=decide (cmpO (inQ e.1.1) lo<=0) && decide (0<=cmpO (inQ e.2.1.1) hi)
theorem slope_fn (e:DE) (h:vE e=true):Fn Tryz.prog 132 [⟨tEdge,e⟩] true [⟨tRat,oD (slO e)⟩]:=by
 obtain ⟨a,b,n,lw⟩:=e
 obtain ⟨h1,h2,h3⟩:=vE_p h
 obtain ⟨a1,a2,a3,a4⟩:=okV_b h1
 obtain ⟨b1,b2,b3,b4⟩:=okV_b h2
 have c1:=RatOfI_fn (b.2 - a.2) (b.1 - a.1) (by omega) (by omega)
 unfold slO
 refine fe Tryz.func132 Tryz.ntmps132 Tryz.results132 fun hwf=>?_
 try simp (maxSteps:=9^9) only[go_sem]
 repeat refine AI ?_
 repeat refine AI ?_
 refine cw c1 ?_
 try simp (maxSteps:=9^9) only[go_sem]
 all_goals repeat refine AI ?_
 all_goals first|kernel_rfl|omega|rfl
theorem heightAt_fn (e:DE) (h:vE e=true) (x:Option Rat) (hx:okO x):Fn Tryz.prog 134 [⟨tEdge,e⟩,⟨tRat,oD x⟩] true [⟨tRat,oD (htO e x)⟩]:=by
 have c0:=slope_fn e h
 have k0:=okO_sl e
 unfold htO
 generalize slO e=sl at c0 k0 ⊢
 obtain ⟨a,b,n,lw⟩:=e
 obtain ⟨h1,h2,h3⟩:=vE_p h
 obtain ⟨a1,a2,a3,a4⟩:=okV_b h1
 have c1:=ratInQ_fn a.2
 have c2:=ratInQ_fn a.1
 have c3:=ratSub_fn x (inQ a.1) hx (okO_in (by omega))
 have c4:=ratMul_fn sl (subO x (inQ a.1)) k0 (okO_sub _ _)
 have c5:=ratAdd_fn (inQ a.2) (mulO sl (subO x (inQ a.1))) (okO_in (by omega)) (okO_mul _ _)
 refine fe Tryz.func134 Tryz.ntmps134 Tryz.results134 fun hwf=>?_
 try simp (maxSteps:=9^9) only[go_sem]
 repeat refine AI ?_
 refine cw c1 ?_
 try simp (maxSteps:=9^9) only[go_sem]
 repeat refine AI ?_
 refine cw c0 ?_
 try simp (maxSteps:=9^9) only[go_sem]
 repeat refine AI ?_
 refine cw c2 ?_
 try simp (maxSteps:=9^9) only[go_sem]
 repeat refine AI ?_
 refine cw c3 ?_
 try simp (maxSteps:=9^9) only[go_sem]
 repeat refine AI ?_
 refine cw c4 ?_
 try simp (maxSteps:=9^9) only[go_sem]
 repeat refine AI ?_
 refine cw c5 ?_
 try simp (maxSteps:=9^9) only[go_sem]
 all_goals repeat refine AI ?_
 all_goals first|kernel_rfl|omega|rfl
theorem spans_fn (e:DE) (h:vE e=true) (x y:Option Rat) (hx:okO x) (hy:okO y):Fn Tryz.prog 135 [⟨tEdge,e⟩,⟨tRat,oD x⟩,⟨tRat,oD y⟩] false [⟨.bool,spB e x y⟩]:=by
 obtain ⟨a,b,n,lw⟩:=e
 obtain ⟨h1,h2,h3⟩:=vE_p h
 obtain ⟨a1,a2,a3,a4⟩:=okV_b h1
 obtain ⟨b1,b2,b3,b4⟩:=okV_b h2
 have c1:=ratInQ_fn a.1
 have c2:=ratInQ_fn b.1
 have c3:=ratCmp_fn (inQ a.1) x (okO_in (by omega)) hx
 have c4:=ratCmp_fn (inQ b.1) y (okO_in (by omega)) hy
 unfold spB
 dsimp only
 by_cases d:cmpO (inQ a.1) x<=0
 ·have d':=decide_eq_true d
  refine fe Tryz.func135 Tryz.ntmps135 Tryz.results135 fun hwf=>?_
  try simp (maxSteps:=9^9) only[go_sem]
  repeat refine AI ?_
  refine cw c1 ?_
  try simp (maxSteps:=9^9) only[go_sem]
  repeat refine AI ?_
  refine cw c3 ?_
  try simp (maxSteps:=9^9) only[go_sem]
  try simp (maxSteps:=9^9) only[go_sem,d']
  repeat refine AI ?_
  repeat refine AI ?_
  refine cw c2 ?_
  try simp (maxSteps:=9^9) only[go_sem]
  repeat refine AI ?_
  refine cw c4 ?_
  try simp (maxSteps:=9^9) only[go_sem]
  all_goals repeat refine AI ?_
  all_goals first|kernel_rfl|omega|rfl
 ·have d':=decide_eq_false d
  refine fe Tryz.func135 Tryz.ntmps135 Tryz.results135 fun hwf=>?_
  try simp (maxSteps:=9^9) only[go_sem]
  repeat refine AI ?_
  refine cw c1 ?_
  try simp (maxSteps:=9^9) only[go_sem]
  repeat refine AI ?_
  refine cw c3 ?_
  try simp (maxSteps:=9^9) only[go_sem]
  try simp (maxSteps:=9^9) only[go_sem,d']
  all_goals repeat refine AI ?_
  all_goals first|kernel_rfl|omega|rfl
def edS (l:List DV) (area:Int) (i:Nat):List DE :=
 let a:=nth (t:=tVec) l i
 let b:=nth (t:=tVec) l ((i+1) % l.length)
 if a.1 < b.1 then [(a,b,area,true)] else if b.1 < a.1 then [(b,a,area,false)] else []
def edI (l:List DV) (area:Int):Nat->List DE
 | 0=>[]
 | i+1=>edI l area i++edS l area i
def edL (l:List DV) (area:Int):List DE:=edI l area l.length
theorem nxtN {l:List DV} {i:Nat}:(((i:Int)+1) % (l.length:Int)).toNat=(i+1) % l.length:=by
 have:((i:Int)+1) % (l.length:Int)=(((i+1) % l.length:Nat):Int):=by rw [Int.natCast_emod]; rfl
 rw [this]; rfl
theorem edS_1 {l:List DV} {area:Int} {i:Nat} (h:(nth (t:=tVec) l i).1 < (nth (t:=tVec) l ((i+1) % l.length)).1):edS l area i=[(nth (t:=tVec) l i,nth (t:=tVec) l ((i+1) % l.length),area,true)]:=if_pos h
theorem edS_2 {l:List DV} {area:Int} {i:Nat} (h:¬ (nth (t:=tVec) l i).1 < (nth (t:=tVec) l ((i+1) % l.length)).1) (h2:(nth (t:=tVec) l i).1 > (nth (t:=tVec) l ((i+1) % l.length)).1):edS l area i=[(nth (t:=tVec) l ((i+1) % l.length),nth (t:=tVec) l i,area,false)]:=(if_neg h).trans (if_pos h2)
theorem edS_3 {l:List DV} {area:Int} {i:Nat} (h:¬ (nth (t:=tVec) l i).1 < (nth (t:=tVec) l ((i+1) % l.length)).1) (h2:¬ (nth (t:=tVec) l i).1 > (nth (t:=tVec) l ((i+1) % l.length)).1):edS l area i=[]:=(if_neg h).trans (if_neg h2)
theorem edS_len (l:List DV) (area:Int) (i:Nat):(edS l area i).length<=1:=by
 unfold edS
 simp only
 split
 ·exact Nat.le_refl _
 ·split
  ·exact Nat.le_refl _
  ·exact Nat.zero_le _
theorem edI_len (l:List DV) (area:Int):∀ i,(edI l area i).length<=i
 | 0=>Nat.le_refl _
 | i+1=>by
  have:=edI_len l area i
  have:=edS_len l area i
  rw [edI,List.length_append]; omega
theorem edL_len (l:List DV) (area:Int):(edL l area).length<=l.length:=edI_len l area l.length
theorem edI_ok {l:List DV} {area:Int} (h:∀ v ∈ l,okV v=true):∀ i,i<=l.length->∀ e ∈ edI l area i,vE e=true
 | 0,_,e,he=>by cases he
 | i+1,hi,e,he=>by
  rw [edI] at he
  rcases List.mem_append.1 he with he|he
  ·exact edI_ok h i (by omega) e he
  ·have ha:=h _ (nth_mem (i:=i) (by omega))
   have hb:=h _ (nth_mem (l:=l) (i:=(i+1) % l.length) (Nat.mod_lt _ (by omega)))
   unfold edS at he
   simp only at he
   split at he
   ·rename_i h1; rw [List.mem_singleton.1 he]; exact vE_of ha hb h1
   ·split at he
    ·rename_i h1; rw [List.mem_singleton.1 he]; exact vE_of hb ha h1
    ·cases he
theorem edL_ok {l:List DV} {area:Int} (h:∀ v ∈ l,okV v=true):∀ e ∈ edL l area,vE e=true:=edI_ok h _ (Nat.le_refl _)
set_option maxHeartbeats 2000000 in
theorem edgesOf_fn (l:List DV) (area:Int) (hn:l.length<=1000000):Fn Tryz.prog 129 [⟨.slice tVec,l⟩,⟨.int,area⟩] true [⟨.slice tEdge,edL l area⟩]:=by
 refine fe Tryz.func129 Tryz.ntmps129 Tryz.results129 fun hwf=>?_
 have hl:l.length<=9223372036854775807:=(hwf ⟨.slice tVec,l⟩ (by simp)).1
 try simp (maxSteps:=9^9) only[go_sem]
 refine LoopG.intro _ _ _ (fun i:Nat=>⟨[(0,.sl tVec l),(1,.sc (.int .i64 area)),(5,.row 0 0),(10,.sl tVec l),(11,.sc (.int .i64 l.length)),(12,.sc (.int .i64 i))],[(0,.row 139 tEdge 0 true (edI l area i))]⟩) (fun i=>i<=l.length) (fun i=>l.length - i) 0 ?_ (Nat.zero_le _) ?_
 ·exact WK
 ·rintro i hi
  have hlen:=edI_len l area i
  try simp (maxSteps:=9^9) only[go_sem]
  refine CondW_dec (fun hA=>?_) (fun hA=>?_)
  ·have hlt:i < l.length:=by omega
   have hN:=nxtN (l:=l) (i:=i)
   have hm:=Nat.mod_lt (i+1) (show 0 < l.length by omega)
   have hm2:0<=((i:Int)+1) % (l.length:Int):=Int.emod_nonneg _ (by omega)
   have hm3:((i:Int)+1) % (l.length:Int) < l.length:=Int.emod_lt_of_pos _ (by omega)
   try simp (maxSteps:=9^9) only[go_sem]
   repeat refine AI ?_
   refine RemW.pos (by omega) (by omega) ?_
   try simp (maxSteps:=9^9) only[go_sem,hN]
   repeat refine AI ?_
   refine CondW_dec (fun h1=>?_) (fun h1=>?_)
   ·have e:=edS_1 (area:=area) h1
    try simp (maxSteps:=9^9) only[go_sem]
    repeat refine AI ?_
    refine LoopK.mk (i+1) ?_ (by omega) (by omega)
    rw [edI,e]
    exact WK
   ·try simp (maxSteps:=9^9) only[go_sem]
    refine CondW_dec (fun h2=>?_) (fun h2=>?_)
    ·have e:=edS_2 (area:=area) h1 h2
     try simp (maxSteps:=9^9) only[go_sem]
     repeat refine AI ?_
     refine LoopK.mk (i+1) ?_ (by omega) (by omega)
     rw [edI,e]
     exact WK
    ·have e:=edS_3 (area:=area) h1 h2
     try simp (maxSteps:=9^9) only[go_sem]
     repeat refine AI ?_
     refine LoopK.mk (i+1) ?_ (by omega) (by omega)
     rw [edI,e,List.append_nil]
     exact WK
  ·obtain rfl:i=l.length:=by omega
   try simp (maxSteps:=9^9) only[go_sem]
   all_goals repeat refine AI ?_
   all_goals first|kernel_rfl|omega|rfl
theorem nth_in {t:Ty} {l:List t.den} {i:Nat} (h:i < l.length):nth (t:=t) l i ∈ l:=by
 rw [nth_lt h]; exact List.getElem_mem h
theorem polyB_q {l:List DV} (h:polyB l=true):polyP l:=@of_decide_eq_true _ (Classical.propDecidable _) h
def edA (l:List (List DV)):Nat->List DE
 | 0=>[]
 | k+1=>edA l k++edL (nth (t:=.slice tVec) l k) k
def edsD (l:List (List DV)):List DE:=edA l l.length
theorem edA_len (l:List (List DV)) (h:∀ a ∈ l,a.length<=16):∀ k,k<=l.length->(edA l k).length<=16 * k
 | 0,_=>Nat.le_refl _
 | k+1,hk=>by
  have h1:=edA_len l h k (by omega)
  have h2:=edL_len (nth (t:=.slice tVec) l k) k
  have h3:=h _ (nth_in (t:=.slice tVec) (i:=k) (by omega))
  rw [edA,List.length_append]; omega
theorem edA_ok {l:List (List DV)} (h:∀ a ∈ l,∀ v ∈ a,okV v=true):∀ k,k<=l.length->∀ e ∈ edA l k,vE e=true
 | 0,_,e,he=>by cases he
 | k+1,hk,e,he=>by
  rw [edA] at he
  rcases List.mem_append.1 he with he|he
  ·exact edA_ok h k (by omega) e he
  ·exact edL_ok (h _ (nth_in (t:=.slice tVec) (i:=k) (by omega))) e he
theorem polyB_len {l:List DV} (h:polyB l=true):l.length<=16:=by
 have:=(polyB_q h).1
 omega
theorem polyB_ok {l:List DV} (h:polyB l=true):∀ v ∈ l,okV v=true:=(polyB_q h).2.1
noncomputable def crX (e f:DE):Option Rat:=divO (subO (htO f (inQ 0)) (htO e (inQ 0))) (subO (slO e) (slO f))
noncomputable def crB (e f:DE):Bool:=(crX e f).isSome && (spB e (crX e f) (crX e f) && spB f (crX e f) (crX e f))
noncomputable def crO (e f:DE):Option Rat:=if crB e f=true then crX e f else none
theorem okO_crX (e f:DE):okO (crX e f):=okO_div _ _
theorem okO_cr (e f:DE):okO (crO e f):=by
 unfold crO; split
 ·exact okO_crX _ _
 ·exact okO_none
theorem cr_some {e f:DE} (h:crB e f=true):(crO e f).isSome=true:=by
 unfold crO; rw [if_pos h]
 unfold crB at h
 rw [Bool.and_eq_true] at h
 exact h.1
theorem okO_in0:okO (inQ 0):=okO_in (by decide)
set_option maxHeartbeats 4000000 in
theorem CrossingX_fn (e f:DE) (he:vE e=true) (hf:vE f=true):Fn Tryz.prog 90 [⟨tEdge,e⟩,⟨tEdge,f⟩] false [⟨tRat,oD (crO e f)⟩,⟨.bool,crB e f⟩]:=by
 have v1:=IsValidEdge_fn e
 have v2:=IsValidEdge_fn f
 rw [he] at v1
 rw [hf] at v2
 have c1:=slope_fn e he
 have c2:=slope_fn f hf
 have c3:=ratSub_fn (slO e) (slO f) (okO_sl _) (okO_sl _)
 have c0:=ratInQ_fn 0
 have c4:=heightAt_fn f hf (inQ 0) okO_in0
 have c5:=heightAt_fn e he (inQ 0) okO_in0
 have c6:=ratSub_fn (htO f (inQ 0)) (htO e (inQ 0)) (okO_ht _ _) (okO_ht _ _)
 have c7:=ratDiv_fn (subO (htO f (inQ 0)) (htO e (inQ 0))) (subO (slO e) (slO f)) (okO_sub _ _) (okO_sub _ _)
 have hx:crX e f=divO (subO (htO f (inQ 0)) (htO e (inQ 0))) (subO (slO e) (slO f)):=rfl
 rw [<-hx] at c7
 have c8:=isGood_fn (crX e f)
 have c9:=spans_fn e he _ _ (okO_crX e f) (okO_crX e f)
 have c10:=spans_fn f hf _ _ (okO_crX e f) (okO_crX e f)
 have e1:crB e f=((crX e f).isSome && (spB e (crX e f) (crX e f) && spB f (crX e f) (crX e f))):=rfl
 unfold crO
 rw [e1]
 clear e1 hx
 generalize crX e f=x at *
 generalize slO e=s1 at *
 generalize slO f=s2 at *
 generalize htO e (inQ 0)=t1 at *
 generalize htO f (inQ 0)=t2 at *
 obtain ⟨⟨a1,a2⟩,⟨a3,a4⟩,a5,a6⟩:=e
 obtain ⟨⟨b1,b2⟩,⟨b3,b4⟩,b5,b6⟩:=f
 cases g1:x.isSome<;>rw [g1] at c8
 ·refine fe Tryz.func90 Tryz.ntmps90 Tryz.results90 fun hwf=>?_
  try simp (maxSteps:=9^9) only[go_sem]
  repeat refine AI ?_
  refine cw v1 ?_
  try simp (maxSteps:=9^9) only[go_sem]
  repeat refine AI ?_
  repeat refine AI ?_
  refine cw v2 ?_
  try simp (maxSteps:=9^9) only[go_sem]
  repeat refine AI ?_
  repeat refine AI ?_
  refine cw c1 ?_
  try simp (maxSteps:=9^9) only[go_sem]
  repeat refine AI ?_
  refine cw c2 ?_
  try simp (maxSteps:=9^9) only[go_sem]
  repeat refine AI ?_
  refine cw c3 ?_
  try simp (maxSteps:=9^9) only[go_sem]
  repeat refine AI ?_
  refine cw c0 ?_
  try simp (maxSteps:=9^9) only[go_sem]
  repeat refine AI ?_
  refine cw c4 ?_
  try simp (maxSteps:=9^9) only[go_sem]
  repeat refine AI ?_
  refine cw c0 ?_
  try simp (maxSteps:=9^9) only[go_sem]
  repeat refine AI ?_
  refine cw c5 ?_
  try simp (maxSteps:=9^9) only[go_sem]
  repeat refine AI ?_
  refine cw c6 ?_
  try simp (maxSteps:=9^9) only[go_sem]
  repeat refine AI ?_
  refine cw c7 ?_
  try simp (maxSteps:=9^9) only[go_sem]
  repeat refine AI ?_
  refine cw c8 ?_
  try simp (maxSteps:=9^9) only[go_sem]
  all_goals repeat refine AI ?_
  all_goals first|kernel_rfl|omega|rfl
 cases g2:spB ((a1,a2),(a3,a4),a5,a6) x x<;>rw [g2] at c9
 ·refine fe Tryz.func90 Tryz.ntmps90 Tryz.results90 fun hwf=>?_
  try simp (maxSteps:=9^9) only[go_sem]
  repeat refine AI ?_
  refine cw v1 ?_
  try simp (maxSteps:=9^9) only[go_sem]
  repeat refine AI ?_
  repeat refine AI ?_
  refine cw v2 ?_
  try simp (maxSteps:=9^9) only[go_sem]
  repeat refine AI ?_
  repeat refine AI ?_
  refine cw c1 ?_
  try simp (maxSteps:=9^9) only[go_sem]
  repeat refine AI ?_
  refine cw c2 ?_
  try simp (maxSteps:=9^9) only[go_sem]
  repeat refine AI ?_
  refine cw c3 ?_
  try simp (maxSteps:=9^9) only[go_sem]
  repeat refine AI ?_
  refine cw c0 ?_
  try simp (maxSteps:=9^9) only[go_sem]
  repeat refine AI ?_
  refine cw c4 ?_
  try simp (maxSteps:=9^9) only[go_sem]
  repeat refine AI ?_
  refine cw c0 ?_
  try simp (maxSteps:=9^9) only[go_sem]
  repeat refine AI ?_
  refine cw c5 ?_
  try simp (maxSteps:=9^9) only[go_sem]
  repeat refine AI ?_
  refine cw c6 ?_
  try simp (maxSteps:=9^9) only[go_sem]
  repeat refine AI ?_
  refine cw c7 ?_
  try simp (maxSteps:=9^9) only[go_sem]
  repeat refine AI ?_
  refine cw c8 ?_
  try simp (maxSteps:=9^9) only[go_sem]
  repeat refine AI ?_
  repeat refine AI ?_
  refine cw c9 ?_
  try simp (maxSteps:=9^9) only[go_sem]
  all_goals repeat refine AI ?_
  all_goals first|kernel_rfl|omega|rfl
 cases g3:spB ((b1,b2),(b3,b4),b5,b6) x x<;>rw [g3] at c10
 ·refine fe Tryz.func90 Tryz.ntmps90 Tryz.results90 fun hwf=>?_
  try simp (maxSteps:=9^9) only[go_sem]
  repeat refine AI ?_
  refine cw v1 ?_
  try simp (maxSteps:=9^9) only[go_sem]
  repeat refine AI ?_
  repeat refine AI ?_
  refine cw v2 ?_
  try simp (maxSteps:=9^9) only[go_sem]
  repeat refine AI ?_
  repeat refine AI ?_
  refine cw c1 ?_
  try simp (maxSteps:=9^9) only[go_sem]
  repeat refine AI ?_
  refine cw c2 ?_
  try simp (maxSteps:=9^9) only[go_sem]
  repeat refine AI ?_
  refine cw c3 ?_
  try simp (maxSteps:=9^9) only[go_sem]
  repeat refine AI ?_
  refine cw c0 ?_
  try simp (maxSteps:=9^9) only[go_sem]
  repeat refine AI ?_
  refine cw c4 ?_
  try simp (maxSteps:=9^9) only[go_sem]
  repeat refine AI ?_
  refine cw c0 ?_
  try simp (maxSteps:=9^9) only[go_sem]
  repeat refine AI ?_
  refine cw c5 ?_
  try simp (maxSteps:=9^9) only[go_sem]
  repeat refine AI ?_
  refine cw c6 ?_
  try simp (maxSteps:=9^9) only[go_sem]
  repeat refine AI ?_
  refine cw c7 ?_
  try simp (maxSteps:=9^9) only[go_sem]
  repeat refine AI ?_
  refine cw c8 ?_
  try simp (maxSteps:=9^9) only[go_sem]
  repeat refine AI ?_
  repeat refine AI ?_
  refine cw c9 ?_
  try simp (maxSteps:=9^9) only[go_sem]
  repeat refine AI ?_
  repeat refine AI ?_
  refine cw c10 ?_
  try simp (maxSteps:=9^9) only[go_sem]
  all_goals repeat refine AI ?_
  all_goals first|kernel_rfl|omega|rfl
 ·refine fe Tryz.func90 Tryz.ntmps90 Tryz.results90 fun hwf=>?_
  try simp (maxSteps:=9^9) only[go_sem]
  repeat refine AI ?_
  refine cw v1 ?_
  try simp (maxSteps:=9^9) only[go_sem]
  repeat refine AI ?_
  repeat refine AI ?_
  refine cw v2 ?_
  try simp (maxSteps:=9^9) only[go_sem]
  repeat refine AI ?_
  repeat refine AI ?_
  refine cw c1 ?_
  try simp (maxSteps:=9^9) only[go_sem]
  repeat refine AI ?_
  refine cw c2 ?_
  try simp (maxSteps:=9^9) only[go_sem]
  repeat refine AI ?_
  refine cw c3 ?_
  try simp (maxSteps:=9^9) only[go_sem]
  repeat refine AI ?_
  refine cw c0 ?_
  try simp (maxSteps:=9^9) only[go_sem]
  repeat refine AI ?_
  refine cw c4 ?_
  try simp (maxSteps:=9^9) only[go_sem]
  repeat refine AI ?_
  refine cw c0 ?_
  try simp (maxSteps:=9^9) only[go_sem]
  repeat refine AI ?_
  refine cw c5 ?_
  try simp (maxSteps:=9^9) only[go_sem]
  repeat refine AI ?_
  refine cw c6 ?_
  try simp (maxSteps:=9^9) only[go_sem]
  repeat refine AI ?_
  refine cw c7 ?_
  try simp (maxSteps:=9^9) only[go_sem]
  repeat refine AI ?_
  refine cw c8 ?_
  try simp (maxSteps:=9^9) only[go_sem]
  repeat refine AI ?_
  repeat refine AI ?_
  refine cw c9 ?_
  try simp (maxSteps:=9^9) only[go_sem]
  repeat refine AI ?_
  repeat refine AI ?_
  refine cw c10 ?_
  try simp (maxSteps:=9^9) only[go_sem]
  all_goals repeat refine AI ?_
  all_goals first|kernel_rfl|omega|rfl
noncomputable def lvX (e:DE) (y:Int):Option Rat:=addO (inQ e.1.1) (divO (inQ (y - e.1.2)) (slO e))
noncomputable def lvB (e:DE) (y:Int):Bool:=!decide (e.1.2=e.2.1.2) && ((lvX e y).isSome && spB e (lvX e y) (lvX e y))
noncomputable def lvO (e:DE) (y:Int):Option Rat:=if lvB e y=true then lvX e y else none
theorem okO_lvX (e:DE) (y:Int):okO (lvX e y):=okO_add _ _
theorem okO_lv (e:DE) (y:Int):okO (lvO e y):=by
 unfold lvO; split
 ·exact okO_lvX _ _
 ·exact okO_none
theorem lv_some {e:DE} {y:Int} (h:lvB e y=true):(lvO e y).isSome=true:=by
 unfold lvO; rw [if_pos h]
 unfold lvB at h
 rw [Bool.and_eq_true,Bool.and_eq_true] at h
 exact h.2.1
set_option maxHeartbeats 4000000 in
theorem LevelX_fn (e:DE) (y:Int) (he:vE e=true) (hy:-1000<=y/\y<=1000):Fn Tryz.prog 91 [⟨tEdge,e⟩,⟨.int,y⟩] false [⟨tRat,oD (lvO e y)⟩,⟨.bool,lvB e y⟩]:=by
 have k1:(e.1.1).natAbs<=1000/\(y - e.1.2).natAbs<=2000:=by
  obtain ⟨a,b,n,lw⟩:=e
  obtain ⟨k1,k2,k3,k4⟩:=okV_b (vE_p he).1
  show a.1.natAbs<=1000/\(y - a.2).natAbs<=2000
  omega
 have v1:=IsValidEdge_fn e
 rw [he] at v1
 have w1:=within_fn y (-1000) 1000
 rw [decide_eq_true hy] at w1
 have c0:=ratInQ_fn e.1.1
 have c1:=ratInQ_fn (y - e.1.2)
 have c2:=slope_fn e he
 have c3:=ratDiv_fn (inQ (y - e.1.2)) (slO e) (okO_in (Nat.le_trans k1.2 (by decide))) (okO_sl _)
 have c4:=ratAdd_fn (inQ e.1.1) (divO (inQ (y - e.1.2)) (slO e)) (okO_in (Nat.le_trans k1.1 (by decide))) (okO_div _ _)
 have hx:lvX e y=addO (inQ e.1.1) (divO (inQ (y - e.1.2)) (slO e)):=rfl
 rw [<-hx] at c4
 have c8:=isGood_fn (lvX e y)
 have c9:=spans_fn e he _ _ (okO_lvX e y) (okO_lvX e y)
 have e1:lvB e y=(!decide (e.1.2=e.2.1.2) && ((lvX e y).isSome && spB e (lvX e y) (lvX e y))):=rfl
 unfold lvO
 rw [e1]
 clear e1 hx
 generalize lvX e y=x at *
 generalize slO e=s1 at *
 obtain ⟨⟨a1,a2⟩,⟨a3,a4⟩,a5,a6⟩:=e
 obtain ⟨k3,k4,_⟩:=vE_p he
 obtain ⟨m1,m2,m3,m4⟩:=okV_b k3
 simp only at m1 m2 m3 m4 c0 c1 c2 c3 c4 ⊢
 by_cases g0:a2=a4
 ·have d0:=decide_eq_true g0
  refine fe Tryz.func91 Tryz.ntmps91 Tryz.results91 fun hwf=>?_
  try simp (maxSteps:=9^9) only[go_sem]
  repeat refine AI ?_
  refine cw v1 ?_
  try simp (maxSteps:=9^9) only[go_sem]
  try simp (maxSteps:=9^9) only[go_sem,d0]
  all_goals repeat refine AI ?_
  all_goals first|kernel_rfl|omega|rfl
 have d0:=decide_eq_false g0
 cases g1:x.isSome<;>rw [g1] at c8
 ·refine fe Tryz.func91 Tryz.ntmps91 Tryz.results91 fun hwf=>?_
  try simp (maxSteps:=9^9) only[go_sem]
  repeat refine AI ?_
  refine cw v1 ?_
  try simp (maxSteps:=9^9) only[go_sem]
  try simp (maxSteps:=9^9) only[go_sem,d0]
  repeat refine AI ?_
  repeat refine AI ?_
  refine cw w1 ?_
  try simp (maxSteps:=9^9) only[go_sem]
  repeat refine AI ?_
  repeat refine AI ?_
  refine cw c0 ?_
  try simp (maxSteps:=9^9) only[go_sem]
  repeat refine AI ?_
  refine cw c1 ?_
  try simp (maxSteps:=9^9) only[go_sem]
  repeat refine AI ?_
  refine cw c2 ?_
  try simp (maxSteps:=9^9) only[go_sem]
  repeat refine AI ?_
  refine cw c3 ?_
  try simp (maxSteps:=9^9) only[go_sem]
  repeat refine AI ?_
  refine cw c4 ?_
  try simp (maxSteps:=9^9) only[go_sem]
  repeat refine AI ?_
  refine cw c8 ?_
  try simp (maxSteps:=9^9) only[go_sem]
  all_goals repeat refine AI ?_
  all_goals first|kernel_rfl|omega|rfl
 cases g2:spB ((a1,a2),(a3,a4),a5,a6) x x<;>rw [g2] at c9
 ·refine fe Tryz.func91 Tryz.ntmps91 Tryz.results91 fun hwf=>?_
  try simp (maxSteps:=9^9) only[go_sem]
  repeat refine AI ?_
  refine cw v1 ?_
  try simp (maxSteps:=9^9) only[go_sem]
  try simp (maxSteps:=9^9) only[go_sem,d0]
  repeat refine AI ?_
  repeat refine AI ?_
  refine cw w1 ?_
  try simp (maxSteps:=9^9) only[go_sem]
  repeat refine AI ?_
  repeat refine AI ?_
  refine cw c0 ?_
  try simp (maxSteps:=9^9) only[go_sem]
  repeat refine AI ?_
  refine cw c1 ?_
  try simp (maxSteps:=9^9) only[go_sem]
  repeat refine AI ?_
  refine cw c2 ?_
  try simp (maxSteps:=9^9) only[go_sem]
  repeat refine AI ?_
  refine cw c3 ?_
  try simp (maxSteps:=9^9) only[go_sem]
  repeat refine AI ?_
  refine cw c4 ?_
  try simp (maxSteps:=9^9) only[go_sem]
  repeat refine AI ?_
  refine cw c8 ?_
  try simp (maxSteps:=9^9) only[go_sem]
  repeat refine AI ?_
  repeat refine AI ?_
  refine cw c9 ?_
  try simp (maxSteps:=9^9) only[go_sem]
  all_goals repeat refine AI ?_
  all_goals first|kernel_rfl|omega|rfl
 ·refine fe Tryz.func91 Tryz.ntmps91 Tryz.results91 fun hwf=>?_
  try simp (maxSteps:=9^9) only[go_sem]
  repeat refine AI ?_
  refine cw v1 ?_
  try simp (maxSteps:=9^9) only[go_sem]
  try simp (maxSteps:=9^9) only[go_sem,d0]
  repeat refine AI ?_
  repeat refine AI ?_
  refine cw w1 ?_
  try simp (maxSteps:=9^9) only[go_sem]
  repeat refine AI ?_
  repeat refine AI ?_
  refine cw c0 ?_
  try simp (maxSteps:=9^9) only[go_sem]
  repeat refine AI ?_
  refine cw c1 ?_
  try simp (maxSteps:=9^9) only[go_sem]
  repeat refine AI ?_
  refine cw c2 ?_
  try simp (maxSteps:=9^9) only[go_sem]
  repeat refine AI ?_
  refine cw c3 ?_
  try simp (maxSteps:=9^9) only[go_sem]
  repeat refine AI ?_
  refine cw c4 ?_
  try simp (maxSteps:=9^9) only[go_sem]
  repeat refine AI ?_
  refine cw c8 ?_
  try simp (maxSteps:=9^9) only[go_sem]
  repeat refine AI ?_
  repeat refine AI ?_
  refine cw c9 ?_
  try simp (maxSteps:=9^9) only[go_sem]
  all_goals repeat refine AI ?_
  all_goals first|kernel_rfl|omega|rfl
@[go_sem] noncomputable def rC (q:Option Rat):List AV:=[.sc (.bool (oD q).1.1),.sl .int (oD q).1.2,.sl .int (oD q).2]
noncomputable def seA (s:Option Rat × Option Rat × Bool) (y:Option Rat):Option Rat × Option Rat × Bool:=if s.2.2=true then (minO s.1 y,maxO s.2.1 y,true) else (y,y,true)
theorem seA_ok {s:Option Rat × Option Rat × Bool} {y:Option Rat} (h1:okO s.1) (h2:okO s.2.1) (h:okO y):okO (seA s y).1/\okO (seA s y).2.1:=by
 unfold seA; split
 ·exact ⟨okO_min h1 h,okO_max h2 h⟩
 ·exact ⟨h,h⟩
set_option maxHeartbeats 2000000 in
theorem seAdd_fn (x lo hi:Option Rat) (f:Bool) (hx:okO x) (hlo:okO lo) (hhi:okO hi):FnA Tryz.prog 143 [.agg (rC x),.ptr 0 0,.ptr 1 0,.ptr 2 0] [(0,.box [.sc (.bool f)]),(1,.box (rC lo)),(2,.box (rC hi))] (.tup []) [(0,.box [.sc (.bool (seA (lo,hi,f) x).2.2)]),(1,.box (rC (seA (lo,hi,f) x).1)),(2,.box (rC (seA (lo,hi,f) x).2.1))]:=by
 cases f
 ·have e:seA (lo,hi,false) x=(x,x,true):=rfl
  rw [e]
  refine fnA_enter tabOK mixes Tryz.func143 rfl rfl _ Tryz.ntmps143 _ Tryz.results143 (by simp) (by first|exact .inl rfl|exact .inr ⟨_,rfl⟩) fun β=>?_
  try simp (maxSteps:=9^9) only[go_sem]
  repeat refine AI ?_
  exact WK
 ·have e:seA (lo,hi,true) x=(minO lo x,maxO hi x,true):=rfl
  rw [e]
  have c1:=ratMin_fn lo x hlo hx
  have c2:=ratMax_fn hi x hhi hx
  refine fnA_enter tabOK mixes Tryz.func143 rfl rfl _ Tryz.ntmps143 _ Tryz.results143 (by simp) (by first|exact .inl rfl|exact .inr ⟨_,rfl⟩) fun β=>?_
  try simp (maxSteps:=9^9) only[go_sem]
  repeat refine AI ?_
  refine cw c1 ?_
  try simp (maxSteps:=9^9) only[go_sem]
  repeat refine AI ?_
  refine cw c2 ?_
  try simp (maxSteps:=9^9) only[go_sem]
  repeat refine AI ?_
  exact WK
noncomputable def seI (es:List DE) (x:Option Rat):Nat->Option Rat × Option Rat × Bool
 | 0=>(none,none,false)
 | i+1=>if spB (nth (t:=tEdge) es i) x x=true then seA (seI es x i) (htO (nth (t:=tEdge) es i) x) else seI es x i
theorem seI_ok (es:List DE) (x:Option Rat):∀ i,okO (seI es x i).1/\okO (seI es x i).2.1
 | 0=>⟨okO_none,okO_none⟩
 | i+1=>by
  have ih:=seI_ok es x i
  rw [seI]
  split
  ·exact seA_ok ih.1 ih.2 (okO_ht _ _)
  ·exact ih
noncomputable def secD (l:List DV) (x:Option Rat):Option Rat × Option Rat × Bool:=seI (edL l 0) x (edL l 0).length
theorem secD_ok (l:List DV) (x:Option Rat):okO (secD l x).1/\okO (secD l x).2.1:=seI_ok _ _ _
set_option maxHeartbeats 4000000 in
theorem sectionAt_fn (l:List DV) (x:Option Rat) (hl:polyB l=true) (hx:okO x):Fn Tryz.prog 97 [⟨.slice tVec,l⟩,⟨tRat,oD x⟩] false [⟨tRat,oD (secD l x).1⟩,⟨tRat,oD (secD l x).2.1⟩,⟨.bool,(secD l x).2.2⟩]:=by
 have c1:=edgesOf_fn l 0 (Nat.le_trans (polyB_len hl) (by decide))
 have hlen:=Nat.le_trans (edL_len l 0) (polyB_len hl)
 have hok:=edL_ok (area:=0) (polyB_ok hl)
 unfold secD
 generalize edL l 0=es at *
 refine fe Tryz.func97 Tryz.ntmps97 Tryz.results97 fun hwf=>?_
 try simp (maxSteps:=9^9) only[go_sem]
 repeat refine AI ?_
 refine cw c1 ?_
 try simp (maxSteps:=9^9) only[go_sem]
 refine LoopG.intro _ _ _ (fun i:Nat=>⟨[(3,.ptr 3 0),(4,.ptr 4 0),(5,.ptr 5 0),(6,.sc (.bool false)),(7,.ptr 1 0),(8,.ptr 2 0),(9,.ptr 0 0),(10,.clb 143 [0,1,2]),(17,.sl tEdge es),(18,.sc (.int .i64 es.length)),(19,.sc (.int .i64 i))],[(0,.box [.sc (.bool (seI es x i).2.2)]),(1,.box (rC (seI es x i).1)),(2,.box (rC (seI es x i).2.1)),(3,.box (rC x)),(4,.box (rC none)),(5,.box (rC none))]⟩) (fun i=>i<=es.length) (fun i=>es.length - i) 0 ?_ (Nat.zero_le _) ?_
 ·refine Wk.mk [(0,5),(1,3),(2,4),(3,0),(4,1),(5,2)] ?_
  try simp (maxSteps:=9^9) only[go_sem]
  try (and_intros<;>first|rfl|omega|exact ⟨_,rfl⟩)
 ·rintro i hi
  try simp (maxSteps:=9^9) only[go_sem]
  refine CondW_dec (fun hA=>?_) (fun hA=>?_)
  ·have hlt:i < es.length:=by omega
   have he:=hok _ (nth_in (t:=tEdge) hlt)
   have c2:=spans_fn _ he x x hx hx
   have c3:=heightAt_fn _ he x hx
   have c4:=seAdd_fn (htO (nth (t:=tEdge) es i) x) (seI es x i).1 (seI es x i).2.1 (seI es x i).2.2 (okO_ht _ _) (seI_ok es x i).1 (seI_ok es x i).2
   have e:seI es x (i+1)=if spB (nth (t:=tEdge) es i) x x=true then seA (seI es x i) (htO (nth (t:=tEdge) es i) x) else seI es x i:=rfl
   cases g:spB (nth (t:=tEdge) es i) x x<;>rw [g] at c2 e
   ·rw [if_neg (by decide)] at e
    try simp (maxSteps:=9^9) only[go_sem]
    repeat refine AI ?_
    repeat refine AI ?_
    refine cw c2 ?_
    try simp (maxSteps:=9^9) only[go_sem]
    repeat refine AI ?_
    refine LoopK.mk (i+1) ?_ (by omega) (by omega)
    rw [e]
    trace_state
    exact WK
   ·rw [if_pos rfl] at e
    try simp (maxSteps:=9^9) only[go_sem]
    repeat refine AI ?_
    repeat refine AI ?_
    refine cw c2 ?_
    try simp (maxSteps:=9^9) only[go_sem]
    repeat refine AI ?_
    refine cw c3 ?_
    try simp (maxSteps:=9^9) only[go_sem]
    repeat refine AI ?_
    refine CallA.mk (c4) ?_
    try simp (maxSteps:=9^9) only[go_sem]
    repeat refine AI ?_
    refine LoopK.mk (i+1) ?_ (by omega) (by omega)
    rw [e]
    exact WK
  ·obtain rfl:i=es.length:=by omega
   try simp (maxSteps:=9^9) only[go_sem]
   all_goals repeat refine AI ?_
   all_goals first|kernel_rfl|omega|rfl
noncomputable def wlA (x top cur:Option Rat) (l:List tWall.den) (y:Option Rat):List tWall.den:=if cmpO cur (minO y top) < 0 then l++[(oD x,oD cur,oD (minO y top))] else l
theorem wlA_len (x top cur:Option Rat) (l:List tWall.den) (y:Option Rat):(wlA x top cur l y).length<=l.length+1:=by
 unfold wlA; split
 ·rw [List.length_append]; exact Nat.le_refl _
 ·exact Nat.le_succ _
set_option maxHeartbeats 2000000 in
theorem wlAdd_fn (ver:Nat) (x top cur y:Option Rat) (l:List tWall.den) (hx:okO x) (ht:okO top) (hc:okO cur) (hy:okO y) (hl:l.length<=1000):FnA Tryz.prog 100 [.agg (rC y),.ptr 0 0,.ptr 1 0,.ptr 2 0,.ptr 3 0] [(0,.box (rC top)),(1,.box (rC cur)),(2,.box [.row 4 ver]),(3,.box (rC x)),(4,.row 95 tWall ver false l)] (.tup []) [(0,.box (rC top)),(1,.box (rC cur)),(2,.box [.row 4 (ver+1)]),(3,.box (rC x)),(4,.row 95 tWall (ver+1) false (wlA x top cur l y))]:=by
 have c1:=ratMin_fn y top hy ht
 have c2:=ratCmp_fn cur (minO y top) hc (okO_min hy ht)
 have o1:=ownO_fn x hx
 have o2:=ownO_fn cur hc
 have o3:=ownO_fn (minO y top) (okO_min hy ht)
 unfold wlA
 generalize minO y top=m at *
 by_cases h:cmpO cur m < 0
 ·rw [if_pos h]
  have h':=decide_eq_true h
  refine fnA_enter tabOK mixes Tryz.func100 rfl rfl _ Tryz.ntmps100 _ Tryz.results100 (by simp) (by first|exact .inl rfl|exact .inr ⟨_,rfl⟩) fun β=>?_
  try simp (maxSteps:=9^9) only[go_sem]
  repeat refine AI ?_
  refine cw c1 ?_
  try simp (maxSteps:=9^9) only[go_sem]
  repeat refine AI ?_
  refine cw c2 ?_
  try simp (maxSteps:=9^9) only[go_sem]
  try simp (maxSteps:=9^9) only[go_sem,h']
  repeat refine AI ?_
  refine cw o1 ?_
  try simp (maxSteps:=9^9) only[go_sem]
  repeat refine AI ?_
  refine cw o2 ?_
  try simp (maxSteps:=9^9) only[go_sem]
  repeat refine AI ?_
  refine cw o3 ?_
  try simp (maxSteps:=9^9) only[go_sem]
  repeat refine AI ?_
  exact WK
 ·rw [if_neg h]
  have h':=decide_eq_false h
  refine fnA_enter tabOK mixes Tryz.func100 rfl rfl _ Tryz.ntmps100 _ Tryz.results100 (by simp) (by first|exact .inl rfl|exact .inr ⟨_,rfl⟩) fun β=>?_
  try simp (maxSteps:=9^9) only[go_sem]
  repeat refine AI ?_
  refine cw c1 ?_
  try simp (maxSteps:=9^9) only[go_sem]
  repeat refine AI ?_
  refine cw c2 ?_
  try simp (maxSteps:=9^9) only[go_sem]
  try simp (maxSteps:=9^9) only[go_sem,h']
  repeat refine AI ?_
  exact WK
end Go.Proofs.YtcbionahcldlnaaGreat.DW

namespace Go.Proofs.YtcbionahcldlnaaGreat.DW
open Go.RowKit Go.Sort
def encV (x:Int × Int):List Value:=[.int .i64 x.1,.int .i64 x.2]
theorem rep_vec {w:World} {cs:List Value} {x:DV} {f:List Nat} (h:tVec.rp.rep w cs x f):cs=encV x/\f=[]/\I64 x.1/\I64 x.2:=by
 obtain ⟨c1,c2,f1,f2,rfl,rfl,⟨rfl,rfl,h1⟩,⟨rfl,rfl,h2⟩⟩:=h
 exact ⟨rfl,rfl,h1,h2⟩
theorem vec_rep {w:World} {x:DV} (h1:I64 x.1) (h2:I64 x.2):tVec.rp.rep w (encV x) x [] :=
 ⟨_,_,[],[],rfl,rfl,⟨rfl,rfl,h1⟩,⟨rfl,rfl,h2⟩⟩
theorem vec_size:tVec.rp.size=2:=rfl
theorem encV_at (x:DV) (j:Nat) (h:j < 2):(encV x)[j]? = some ((encV x)[j]!):=by
 match j,h with
 | 0,_=>rfl
 | 1,_=>rfl
theorem flat_at (l:List DV) {t:Nat} (h:t < l.length * 2):(flatK encV 2 l.toArray)[t]! = (encV (l[t / 2]'(by omega)))[t % 2]!:=by
 rw [get_flatK encV 2 l.toArray t (by simpa using h)]
 rw [getElem!_pos l.toArray (t / 2) (by simp; omega)]
 rfl
theorem row_in {base:Nat} {w:World} {e:TypeId} {v:Value} {l:List DV} {fps:List (List Nat)} (h:GrowF tVec.rp base w e v l fps) (h0:0 < l.length) :
  ∃ g cap cur,v=.slice (some ⟨g,0,none⟩) l.length cap/\base<=g/\w.heap[g]? = some (.cells cur e (0,0))/\l.length<=cap/\cap<=maxLen/\cur.size=cap * 2/\HoldsK encV 2 w g 0 l.toArray/\∀ x ∈ l,I64 x.1/\I64 x.2:=by
 obtain ⟨xs,⟨hxl,hor⟩,hfl,he⟩:=h
 rcases hor with ⟨_,hn⟩|⟨g,cap,cur,hv,hb,hg,hnc,hcm,hcs,htk⟩
 ·omega
 rw [vec_size] at hxl hcs htk
 refine ⟨g,cap,cur,hv,hb,hg,hnc,hcm,hcs,fun j hj=>?_,fun x hx=>?_⟩
 ·have hj2:j < l.length * 2:=by simpa using hj
  refine ⟨?_,frozen_of_row w g _ cur e hg⟩
  rw [Nat.zero_add,cell_of_row w g j cur e (0,0) hg,<-Array.getElem?_toList]
  show _=some ((flatK encV 2 l.toArray)[j]!)
  rw [flat_at l hj2]
  obtain ⟨f,cs,_,h2,h3⟩:=he (j / 2) (l[j / 2]'(by omega)) (List.getElem?_eq_getElem _)
  obtain ⟨rfl,_⟩:=rep_vec h2
  have:=h3 (j % 2) _ (encV_at _ (j % 2) (by omega))
  rw [vec_size,show j / 2 * 2+j % 2=j by omega,<-htk,List.getElem?_take,if_pos hj2] at this
  exact this
 ·obtain ⟨i,hi,rfl⟩:=List.getElem_of_mem hx
  obtain ⟨f,cs,_,h2,_⟩:=he i l[i] (List.getElem?_eq_getElem hi)
  exact (rep_vec h2).2.2
theorem row_out {base:Nat} {w w':World} {e:TypeId} {g cap n:Nat} {cur:Array Value} {os:Array Obj} {d:List DV} (hb:base<=g) (hg:w.heap[g]? = some (.cells cur e (0,0))) (hcs:cur.size=cap * 2) (hcm:cap<=maxLen) (hd:d.length<=cap) (hI:∀ x ∈ d,I64 x.1/\I64 x.2) (m:Nat) (hm:m<=d.length)
  (hw:w'=sortWorldK encV 2 w g 0 n d.toArray os) :
  GrowF tVec.rp base w' e (.slice (some ⟨g,0,none⟩) m cap) (d.take m) (List.replicate m [])/\w.grownBy w' (some g):=by
 have hgs:g < w.heap.size:=(Array.getElem?_eq_some_iff.1 hg).1
 have hg':w'.heap[g]? = some (.cells (Go.Sort.putCells id 0 (flatK encV 2 d.toArray) cur) e (0,0)):=by
  subst hw
  unfold sortWorldK putRowK putRow mapBlock grow
  have hsz:g < (Sort.ahead w n).heap.size:=hgs
  simp only [heap_ahead]
  rw [Array.getElem?_append_left (by rw [Array.size_modify]; exact hgs),Array.getElem?_modify,if_pos rfl,hg]
  rfl
 have hlt:(d.take m).length=m:=by rw [List.length_take]; omega
 have hcell:∀ t,t < d.length * 2->(Go.Sort.putCells id 0 (flatK encV 2 d.toArray) cur).toList[t]? = some ((flatK encV 2 d.toArray)[t]!):=by
  intro t ht
  rw [Array.getElem?_toList]
  unfold Go.Sort.putCells
  rw [Array.getElem?_mapIdx,Array.getElem?_eq_getElem (by omega:t < cur.size),Option.map_some,if_pos ⟨Nat.zero_le _,by rw [size_flatK]; simpa using ht⟩]
  rfl
 have hps:(Go.Sort.putCells id 0 (flatK encV 2 d.toArray) cur).size=cap * 2:=by unfold Go.Sort.putCells; rw [Array.size_mapIdx,hcs]
 refine ⟨⟨(Go.Sort.putCells id 0 (flatK encV 2 d.toArray) cur).toList.take (m * 2),⟨?_,.inr ⟨g,cap,_,?_,hb,hg',?_,hcm,hps,?_⟩⟩,?_,fun i x hx=>?_⟩,?_⟩
 ·rw [hlt,vec_size,List.length_take,Array.length_toList,hps]; omega
 ·rw [hlt]
 ·rw [hlt]; omega
 ·rw [hlt,vec_size]
 ·rw [hlt,List.length_replicate]
 ·have hi:i < m:=by have:=(List.getElem?_eq_some_iff.1 hx).1; omega
  rw [List.getElem?_take,if_pos hi] at hx
  obtain ⟨hid,hx⟩:=List.getElem?_eq_some_iff.1 hx
  subst hx
  obtain ⟨i1,i2⟩:=hI _ (List.getElem_mem hid)
  refine ⟨[],encV d[i],by simp [hi],vec_rep i1 i2,fun j v hj=>?_⟩
  have hj2:j < 2:=(List.getElem?_eq_some_iff.1 hj).1
  rw [vec_size,List.getElem?_take,if_pos (by omega),hcell _ (by omega),flat_at d (by omega)]
  have e1:(i * 2+j) / 2=i:=by omega
  have e2:(i * 2+j) % 2=j:=by omega
  simp only [e1,e2]
  rw [<-encV_at _ j hj2,hj]
 ·subst hw
  refine ⟨rfl,rfl,rfl,?_,fun k hk hne=>?_⟩
  ·rw [sortWorldK,size_grow]
   have:(putRowK encV 2 (Sort.ahead w n) g 0 d.toArray).heap.size=w.heap.size:=by unfold putRowK; rw [size_putRow]; rfl
   omega
  ·have hkg:g ≠ k:=fun h=>hne (by rw [h])
   unfold sortWorldK putRowK putRow mapBlock grow
   simp only [heap_ahead]
   rw [Array.getElem?_append_left (by rw [Array.size_modify]; exact hk),Array.getElem?_modify,if_neg hkg]
theorem FnR.of {P:Program} {f:FuncId} {xs:List Cst} {e:TypeId} {l l':List DV} (he:∀ vs w,(callFunc f vs).run P w=.ok (.enter f vs) w) (h0:0 < l.length) (ret:Bool) (d:(∀ x ∈ l,I64 x.1/\I64 x.2)->∀ (w:World) (g cap:Nat),g < w.heap.size->l.length<=cap->cap<=maxLen->HoldsK encV 2 w g 0 l.toArray →
   Calls P f (.slice (some ⟨g,0,none⟩) l.length cap :: xs.map Cst.val).toArray w fun en w'=>∃ (dd:List DV) (n:Nat) (os:Array Obj),en=.returned (if ret then .slice (some ⟨g,0,none⟩) l'.length cap else .tuple #[])/\(ret=false->l'.length=l.length)/\dd.length=l.length/\(∀ x ∈ dd,x ∈ l\/x=(0,0))/\l'=dd.take l'.length/\l'.length<=dd.length/\w'=sortWorldK encV 2 w g 0 n dd.toArray os):FnR P f xs e tVec l l' ret:=by
 refine ⟨he,fun w base v fps _ _ _ hone hgr=>?_⟩
 obtain ⟨g,cap,cur,rfl,hb,hg,hnc,hcm,hcs,hH,hI⟩:=row_in hgr h0
 refine (d hI w g cap (Array.getElem?_eq_some_iff.1 hg).1 hnc hcm hH).mono ?_
 rintro en w' ⟨dd,n,os,h1,h2,h3,h4,h5,h6,h7⟩
 have hI2:∀ x ∈ dd,I64 x.1/\I64 x.2:=fun x hx=>by
  rcases h4 x hx with h|rfl
  ·exact hI x h
  ·exact ⟨(by show I64 0; unfold I64; omega),(by show I64 0; unfold I64; omega)⟩
 obtain ⟨k1,k2⟩:=row_out (base:=base) hb hg hcs hcm (by omega) hI2 l'.length h6 h7
 rw [<-h5] at k1
 exact ⟨.slice (some ⟨g,0,none⟩) l'.length cap,_,h1,fun hr=>by rw [h2 hr],rfl,rfl,k1,k2,fun b hb=>by
  obtain ⟨f,hf,hb⟩:=List.mem_flatten.1 hb
  rw [(List.mem_replicate.1 hf).2] at hb; cases hb⟩
end Go.Proofs.YtcbionahcldlnaaGreat.DW

namespace Go.Proofs.YtcbionahcldlnaaGreat.Drn
open Go
theorem ask_mono {α:Type}:∀ (k:Ask α) (w:World),w.drawn<=(w.ask k).2.drawn:=by
 intro k
 induction k with
 | done a=>intro w; exact Nat.le_refl _
 | ask what range k ih =>
  intro w
  unfold World.ask
  dsimp only
  split
  ·exact ih _ _
  ·exact Nat.le_trans (Nat.le_succ _) (ih _ { w with drawn:=w.drawn+1 })
theorem sys_mono (w:World) (c:Sys):w.drawn<=(w.sys c).2.drawn:=by
 have h:=ask_mono (Kernel.perform c w.os) w
 unfold World.sys
 split
 ·exact Nat.le_refl _
 ·rename_i h2; rw [h2] at h; exact h
theorem view_mono {p:Program} {w:World} {at_:Addr} {u:TypeId} {k:Addr} {v:Value} {b:Bool} {r:World × List Addr} (h:w.viewStore p at_ u k v b=.ok r):r.1.drawn=w.drawn:=by
 unfold World.viewStore at h
 simp only [bind,Except.bind,pure,Except.pure,throw,throwThe,MonadExceptOf.throw] at h
 repeat' first
  | (cases h; done)
  | (injection h with h; subst h; rfl)
  | split at h
theorem far_mono {p:Program} {w:World} {a:Addr} {v:Value} {b:Bool} {r:World × List Addr} (h:w.farStore p a v b=.ok r):r.1.drawn=w.drawn:=by
 unfold World.farStore at h
 split at h
 ·split at h
  ·rename_i h2; injection h with h; subst h; exact view_mono h2
  ·cases h
 ·cases h
theorem freeze_mono (w:World) (a:Addr) (n:Nat):(w.freeze a n).drawn=w.drawn:=by
 unfold World.freeze; split<;>rfl
def RM {α:Type} (n:Nat):Result α->Prop
 | .ok _ w=>n<=w.drawn
 | .halt _ w=>n<=w.drawn
theorem RM.le {α:Type} {m n:Nat} {r:Result α} (h:m<=n) (g:RM n r):RM m r:=by
 cases r<;>exact Nat.le_trans h g
theorem run_mono {α:Type} (p:Program) (e:Sem α):∀ w:World,RM w.drawn (e.run p w):=by
 induction e with
 | pure a=>intro w; exact Nat.le_refl _
 | load m a k ih =>
  intro w
  unfold Sem.run
  split
  ·exact ih _ _
  ·split
   ·exact ih _ _
   ·exact Nat.le_refl _
 | store m a v k ih =>
  intro w
  have hw:∀ x,RM w.drawn (k.run p (w.setCell a x)):=fun x=>ih (w.setCell a x)
  cases v
  all_goals
   simp only [Sem.run]
   repeat' first
    | exact Nat.le_refl _
    | exact hw _
    | (rename_i h; exact RM.le (Nat.le_of_eq (far_mono h).symm) (ih _))
    | split
 | new o k ih=>intro w; exact ih _ { w with heap:=w.heap.push o }
 | shape r k ih=>intro w; exact ih _ _
 | freeze a n k ih=>intro w; exact RM.le (Nat.le_of_eq (freeze_mono w a n).symm) (ih (w.freeze a n))
 | frozen a k ih=>intro w; exact ih _ _
 | getObj r k ih =>
  intro w
  unfold Sem.run
  split
  ·exact Nat.le_refl _
  ·exact ih _ _
  ·exact Nat.le_refl _
 | setObj r o k ih =>
  intro w
  unfold Sem.run
  split
  ·exact Nat.le_refl _
  ·exact ih { w with heap:=w.heap.setIfInBounds r o }
  ·exact Nat.le_refl _
 | choose q k ih =>
  intro w
  unfold Sem.run
  split
  ·exact ih _ _
  ·exact RM.le (Nat.le_succ _) (ih _ { w with drawn:=w.drawn+1 })
 | sys c k ih =>
  intro w
  unfold Sem.run
  exact RM.le (sys_mono w c) (ih _ _)
 | program k ih=>intro w; exact ih _ _
 | mark m k ih=>intro w; exact ih _
 | halt h=>intro w; exact Nat.le_refl _
theorem run_ok {α:Type} {p:Program} {e:Sem α} {w w':World} {a:α} (h:e.run p w=.ok a w'):w.drawn<=w'.drawn:=by
 have:=run_mono p e w; rw [h] at this; exact this
theorem run_halt {α:Type} {p:Program} {e:Sem α} {w w':World} {a:Halt} (h:e.run p w=.halt a w'):w.drawn<=w'.drawn:=by
 have:=run_mono p e w; rw [h] at this; exact this
def GM (n:Nat):GStep->Prop
 | .go _ w _|.comm _ _ _ _ w _|.spawn _ _ w _|.count _ w _|.timer _ _ w _|.alone _ _ w _|.newcoro _ _ _ w _|.coroswitch _ _ _ w _|.collect _ w _|.watch _ w _=>n<=w.drawn
 | .ended ..=>True
theorem gm_after {n:Nat} {es:Array Event} {s:GStep}:GM n (GStep.after es s) ↔ GM n s:=by cases s<;>exact Iff.rfl
theorem GM.le {m n:Nat} {s:GStep} (h:m<=n) (g:GM n s):GM m s:=by
 cases s<;>first|exact Nat.le_trans h g|trivial
theorem endWith_gm {n:Nat} (w:World) (fd:Nat) (text:ByteArray) (o:Outcome):GM n (endWith w fd text o):=by
 unfold endWith
 simp only []
 repeat' first
  | trivial
  | split
theorem dieOf_gm (fr:Frame) (ahead:List ByteArray) (m:String) (whole:Bool) (w:World):GM w.drawn (dieOf fr ahead m whole w):=Nat.le_refl _
theorem endThrow_gm (fr:Frame) (m:String) (w:World):GM w.drawn (endThrow fr m w):=Nat.le_refl _
theorem endPrinting_gm (p:Program) (fr:Frame) (v:Value) (w:World):GM w.drawn (endPrinting p fr v w):=by
 unfold endPrinting
 simp only []
 repeat' first
  | trivial
  | exact endThrow_gm _ _ _
  | split
theorem endFatal_gm (p:Program) (fr:Frame) (callers:List Frame) (dying:Option Dying) (m:String) (w:World):GM w.drawn (endFatal p fr callers dying m w):=by
 unfold endFatal
 simp only []
 split
 ·rename_i h; exact GM.le (run_ok h) (dieOf_gm _ _ _ _ _)
 ·trivial
 ·trivial
theorem writeOn_gm (p:Program) (fr:Frame) (d:Dying) (f:Fatal) (w:World):GM w.drawn (writeOn p fr d f w):=by
 unfold writeOn
 simp only [Sem.runT_eq]
 split
 ·trivial
 ·split
  ·rename_i h; injection h with h1 h2; exact run_ok h1
  ·rename_i h; injection h with h1 h2; exact run_halt h1
  ·trivial
  ·trivial
theorem die_gm (p:Program) (fr:Frame) (d:Dying) (w:World):GM w.drawn (die p fr d w):=by
 unfold die
 simp only [Sem.runT_eq]
 split
 ·exact writeOn_gm _ _ _ _ _
 ·split
  ·split
   ·exact Nat.le_refl _
   ·exact endWith_gm _ _ _ _
  ·split
   ·exact Nat.le_refl _
   ·split
    ·rename_i h; exact run_ok h
    ·trivial
   ·rw [gm_after]
    split
    ·rename_i h; exact run_ok h
    ·rename_i h; exact run_ok h
    ·trivial
    ·rename_i h; exact GM.le (run_halt h) (endPrinting_gm _ _ _ _)
    ·trivial
   ·trivial
theorem early_gm (p:Program) (fr:Frame) (callers:List Frame) (dying:Option Dying) (g:Nat) (w:World):GM w.drawn (early p fr callers dying g w):=by
 unfold early
 simp only []
 repeat' first
  | trivial
  | exact Nat.le_refl _
  | (refine (?_:w.drawn<=World.drawn _); exact run_ok ‹Sem.run _ _ _=Result.ok _ _›)
  | (show w.drawn<=_; dsimp only; exact run_ok ‹Sem.run _ _ _=Result.ok _ _›)
  | split
theorem doReturn_gm (p:Program) (main:Bool) (fr:Frame) (callers:List Frame) (dying:Option Dying) (v:Value) (w:World):GM w.drawn (doReturn p main fr callers dying v w):=by
 unfold doReturn
 simp only []
 repeat' first
  | trivial
  | exact Nat.le_refl _
  | split
theorem callDeferred_gm (p:Program) (fr:Frame) (callers:List Frame) (dying:Option Dying) (d:Deferred) (w:World):GM w.drawn (callDeferred p fr callers dying d w):=by
 unfold callDeferred
 simp only [Sem.runT_eq]
 repeat' first
  | trivial
  | exact Nat.le_refl _
  | exact run_ok ‹Sem.run _ _ _=Result.ok _ _›
  | exact GM.le (run_halt ‹Sem.run _ _ _=Result.halt _ _›) (endFatal_gm _ _ _ _ _ _)
  | exact GM.le (run_halt ‹Sem.run _ _ _=Result.halt _ _›) (endThrow_gm _ _ _)
  | exact run_halt ‹Sem.run _ _ _=Result.halt _ _›
  | rw [gm_after]
  | split
theorem unwind_gm (p:Program) (main:Bool) (fr:Frame) (callers:List Frame) (dying:Option Dying) (w:World):GM w.drawn (unwind p main fr callers dying w):=by
 unfold unwind
 simp only [Sem.runT_eq]
 repeat' first
  | trivial
  | exact Nat.le_refl _
  | exact run_ok ‹Sem.run _ _ _=Result.ok _ _›
  | exact callDeferred_gm _ _ _ _ _ _
  | exact endPrinting_gm _ _ _ _
  | exact doReturn_gm _ _ _ _ _ _ _
  | exact GM.le (run_ok ‹Sem.run _ _ _=Result.ok _ _›) (doReturn_gm _ _ _ _ _ _ _)
  | exact run_halt ‹Sem.run _ _ _=Result.halt _ _›
  | rw [gm_after]
  | split
theorem apply_gm (p:Program) (main listen:Bool) (fr:Frame) (callers:List Frame) (dying:Option Dying) (s:Sem Next) (w:World):GM w.drawn (stepG.apply p listen fr callers dying s w):=by
 unfold stepG.apply
 simp only [Sem.runT_eq]
 rw [gm_after]
 have h:RM w.drawn ((if listen=true then (s.run p w,s.events p w #[]) else (s.run p w,#[])).1):=by split<;>exact run_mono p s w
 generalize (if listen=true then (s.run p w,s.events p w #[]) else (s.run p w,#[])).1=r at h ⊢
 have hok:∀ a w',r=.ok a w'->w.drawn<=w'.drawn:=fun a w' e=>by rw [e] at h; exact h
 have hh:∀ a w',r=.halt a w'->w.drawn<=w'.drawn:=fun a w' e=>by rw [e] at h; exact h
 clear h
 repeat' first
  | trivial
  | exact hok _ _ rfl
  | exact hh _ _ rfl
  | exact GM.le (hok _ _ rfl) (endThrow_gm _ _ _)
  | exact GM.le (hh _ _ rfl) (endThrow_gm _ _ _)
  | exact GM.le (hh _ _ rfl) (endFatal_gm _ _ _ _ _ _)
  | exact GM.le (hh _ _ rfl) (early_gm _ _ _ _ _ _)
  | split
theorem oper_gm (p:Program) (main listen:Bool) (fr:Frame) (callers:List Frame) (dying:Option Dying) (w:World):GM w.drawn (stepG.oper p listen fr callers dying w):=by
 unfold stepG.oper
 repeat' first
  | trivial
  | exact apply_gm p main listen _ _ _ _ _
  | split
theorem exec_gm (p:Program) (main listen:Bool) (fr:Frame) (callers:List Frame) (dying:Option Dying) (w:World):GM w.drawn (stepG.exec p main listen fr callers dying w):=by
 unfold stepG.exec
 simp only [Sem.runT_eq,Option.elim]
 repeat' first
  | trivial
  | exact Nat.le_refl _
  | exact oper_gm p main listen _ _ _ _
  | exact apply_gm p main listen _ _ _ _ _
  | exact run_ok ‹Sem.run _ _ _=Result.ok _ _›
  | exact GM.le (run_ok ‹Sem.run _ _ _=Result.ok _ _›) (doReturn_gm _ _ _ _ _ _ _)
  | exact GM.le (run_ok ‹Sem.run _ _ _=Result.ok _ _›) (apply_gm p main listen _ _ _ _ _)
  | exact run_halt ‹Sem.run _ _ _=Result.halt _ _›
  | rw [gm_after]
  | split
theorem stepG_gm (p:Program) (main:Bool) (g:Goroutine) (w:World) (listen:Bool):GM w.drawn (stepG p main g w listen):=by
 unfold stepG
 split
 split
 ·exact die_gm _ _ _ _
 ·exact exec_gm _ _ _ _ _ _ _
 ·exact unwind_gm _ _ _ _ _ _
end Go.Proofs.YtcbionahcldlnaaGreat.Drn
namespace Go.Proofs.YtcbionahcldlnaaGreat.Drn
open Go
def SM (n:Nat):Stepped->Prop
 | .next m=>n<=m.world.drawn
 | _=>True
theorem SM.le {m n:Nat} {s:Stepped} (h:m<=n) (g:SM n s):SM m s:=by
 cases s<;>first|exact Nat.le_trans h g|trivial
theorem communicate_sm (p:Program) (rest:Rest) (gs:Array Goroutine) (i:Nat) (g:Goroutine) (cases:Array CommCase) (blocking:Bool) (shape:CommShape) (w:World):SM w.drawn (communicate p rest gs i g cases blocking shape w).1:=by
 unfold communicate
 simp only []
 split
 ·trivial
 split
 ·split
  ·split
   ·rename_i h
    unfold waitingAt at h
    split at h
    ·split at h
     ·injection h with h; subst h; exact Nat.le_refl _
     ·cases h
    ·injection h with h; subst h; exact Nat.le_refl _
   ·trivial
  ·exact Nat.le_refl _
 ·split
  ·trivial
  ·rename_i w' h
   have h1:=run_ok h
   repeat' first
    | trivial
    | exact h1
    | exact Nat.le_trans h1 (run_halt ‹Sem.run _ _ _=Result.halt _ _›)
    | (refine Nat.le_trans h1 (?_:w'.drawn<=World.drawn _); dsimp only; exact run_ok ‹Sem.run _ _ w'=Result.ok _ _›)
    | split
theorem look_sm (p:Program) (gs:Array Goroutine) (rest:Rest) (w:World):SM w.drawn (look p gs rest w):=by
 unfold look
 simp only []
 repeat' first
  | trivial
  | (show w.drawn<=_; dsimp only; exact run_ok ‹Sem.run _ _ _=Result.ok _ _›)
  | split
theorem drain_mono (w:World) (c:Nat):(drain w c).2.drawn=w.drawn:=by
 unfold drain; split<;>rfl
theorem retime_mono (m:Machine) (k:Nat) (t:Timer) (a b:Nat):(retime m k t a b).2.world.drawn=m.world.drawn:=by
 unfold retime
 have e:(match t.chan with|some c=>drain m.world c|none=>(false,m.world)).2.drawn=m.world.drawn:=by
  split
  ·exact drain_mono _ _
  ·rfl
 split
 rename_i h
 exact (congrArg (fun q:Bool × World=>q.2.drawn) h).symm.trans e
theorem timerOp_mono {m m':Machine} {op:TimerOp} {v:Value} (h:timerOp m op=.ok (v,m')):m.world.drawn<=m'.world.drawn:=by
 have named:∀ (m0:Machine) (var:Addr) (f:Nat->Timer->Value × Machine),(∀ k t,(f k t).2.world.drawn=m.world.drawn)->timerOp.named m var f=.ok (v,m')->m.world.drawn<=m'.world.drawn:=by
  intro m0 var f hf h
  unfold timerOp.named at h
  split at h
  ·rename_i k hk
   injection h with h
   have:=congrArg (fun q:Value × Machine=>q.2.world.drawn) h
   exact Nat.le_of_eq ((hf k _).symm.trans this)
  ·cases h
 unfold timerOp at h
 split at h
 ·split at h
  ·injection h with h; injection h with h1 h2; subst h2; exact Nat.le_refl _
  ·split at h
   ·split at h
    ·cases h
    ·injection h with h; injection h with h1 h2; subst h2; exact Nat.le_refl _
   ·cases h
 ·exact named m _ _ (fun k t=>retime_mono _ _ _ _ _) h
 ·split at h
  ·rename_i m2 h2
   refine named m _ _ (fun k t=>(retime_mono _ _ _ _ _).trans ?_) h
   unfold timerOp.opened at h2
   split at h2
   ·split at h2
    ·injection h2 with h2; subst h2; rfl
    ·cases h2
   ·injection h2 with h2; subst h2; rfl
  ·cases h
 ·injection h with h; injection h with h1 h2; subst h2; exact Nat.le_refl _
theorem runT_sm (p:Program) (m:Machine) (i:Nat) (b:Bool):SM m.world.drawn (runT p m i b).1:=by
 simp only [runT]
 generalize m.gs.swapAt! _ _=gg
 have h:=stepG_gm p (i == 0) gg.1 m.world b
 generalize stepG p _ gg.1 m.world b=s at h ⊢
 cases s<;>simp only []
 all_goals repeat' first
  | trivial
  | exact h
  | exact SM.le h (communicate_sm _ _ _ _ _ _ _ _ _)
  | exact SM.le h (look_sm _ _ _ _)
  | (refine Nat.le_trans h ?_; exact timerOp_mono ‹timerOp _ _=Except.ok _›)
  | split
theorem serve_sm (p:Program) (m:Machine) (k:Nat):SM m.world.drawn (serve p m k):=by
 unfold serve
 simp only []
 repeat' first
  | trivial
  | exact Nat.le_refl _
  | split
def VM (n:Nat):Move->Prop
 | .goroutine m _=>n<=m.world.drawn
 | .machine s _=>SM n s
theorem VM.le {m n:Nat} {s:Move} (h:m<=n) (g:VM n s):VM m s:=by
 cases s with
 | goroutine=>exact Nat.le_trans h g
 | machine s _=>exact SM.le h g
theorem askOn_vm (p:Program) (m:Machine):VM m.world.drawn (askOn p m):=by
 unfold askOn
 simp only []
 split
 ·trivial
 rename_i k w h
 have h1:=run_ok h
 repeat' first
  | trivial
  | exact h1
  | exact SM.le h1 (serve_sm _ _ _)
  | exact Nat.le_trans h1 (run_ok ‹Sem.run _ _ _=Result.ok _ _›)
  | exact Nat.le_trans h1 (Nat.le_trans (run_ok ‹Sem.run _ _ _=Result.ok _ _›) (run_ok ‹Sem.run _ (choose (Question.extern "sched.slice" _)) _=Result.ok _ _›))
  | (have a:=run_ok ‹Sem.run _ (choose (Question.extern "clock.wait" _)) _=Result.ok _ _›; have b:=run_ok ‹Sem.run _ (choose (Question.sched _)) _=Result.ok _ _›; have c:=run_ok ‹Sem.run _ (choose (Question.extern "sched.slice" _)) _=Result.ok _ _›; exact Nat.le_trans h1 (Nat.le_trans a (Nat.le_trans b c)))
  | (have a:=run_ok ‹Sem.run _ (choose (Question.extern "clock.wait" _)) _=Result.ok _ _›; have b:=run_ok ‹Sem.run _ (choose (Question.sched _)) _=Result.ok _ _›; exact Nat.le_trans h1 (Nat.le_trans a b))
  | (have a:=run_ok ‹Sem.run _ (choose (Question.extern "clock.wait" _)) _=Result.ok _ _›; exact Nat.le_trans h1 a)
  | split
theorem ask_vm (p:Program) (m:Machine):VM m.world.drawn (ask p m):=by
 unfold ask
 split
 ·split
  ·trivial
  ·rename_i h
   have h1:=run_ok h
   have h2:=look_sm p m.gs m.rest ‹World›
   split
   ·rename_i h3
    rw [h3] at h2
    exact VM.le (Nat.le_trans h1 h2) (askOn_vm _ _)
   ·exact SM.le h1 h2
  ·rename_i h
   exact VM.le (run_ok h) (askOn_vm _ _)
 ·exact askOn_vm _ _
theorem move_vm (p:Program) (m:Machine):VM m.world.drawn (move p m):=by
 unfold move
 repeat' first
  | trivial
  | exact Nat.le_refl _
  | exact ask_vm _ _
  | split
theorem step_mono {p:Program} {m m':Machine} (h:step p m=.next m'):m.world.drawn<=m'.world.drawn:=by
 unfold step stepT at h
 have h1:=move_vm p m
 split at h
 ·rename_i h2
  rw [h2] at h1
  have h3:=runT_sm p ‹Machine› ‹Nat› true
  rw [h] at h3
  exact Nat.le_trans h1 h3
 ·rename_i h2
  rw [h2] at h1
  simp only at h
  rw [h] at h1
  exact h1
theorem runN_mono (p:Program):∀ (n:Nat) (m m':Machine),runN p n m=.next m'->m.world.drawn<=m'.world.drawn
 | 0,m,m',h=>by
  unfold runN at h
  injection h with h
  rw [h]; exact Nat.le_refl _
 | n+1,m,m',h=>by
  unfold runN at h
  split at h
  ·rename_i h2
   exact Nat.le_trans (step_mono h2) (runN_mono p n _ _ h)
  ·rename_i h2
   exact absurd h (by intro h; first|exact h2 _ h|cases h)
theorem steps_mono {p:Program} {m m':Machine} (h:Steps p m m'):m.world.drawn<=m'.world.drawn:=by
 obtain ⟨n,h⟩:=h
 exact runN_mono p n _ _ h
theorem calls_mono {P:Program} {f:FuncId} {args:Array Value} {w:World} {R:Ending->World->Prop} (h:Calls P f args w R) (hr:∀ e w',R e w'->e ≠ .outgrown):Calls P f args w fun e w'=>R e w'/\w.drawn<=w'.drawn:=by
 intro cs
 obtain ⟨e,w',fr,h1,h2,h3⟩:=h cs
 refine ⟨e,w',fr,⟨h1,?_⟩,h2,h3⟩
 have he:=hr e w' h1
 cases e with
 | outgrown=>exact absurd rfl he
 | returned v=>exact steps_mono h2
 | panicked c=>exact steps_mono h2
end Go.Proofs.YtcbionahcldlnaaGreat.Drn

namespace Go.Proofs.YtcbionahcldlnaaGreat.DW
open Go.RowKit Go.Sort
structure Hd (t:Ty) (Pr:t.den->Prop) (w:World) (g:Nat) where
 cs:List Value
 x:t.den
 fp:List Nat
 rep:t.rp.rep w cs x fp
 ne:g ∉ fp
 ok:Pr x
section
variable {t:Ty} {Pr:t.den->Prop} {w:World} {g:Nat}
theorem Hd.len (y:Hd t Pr w g):y.cs.length=t.rp.size:=t.rp.len y.rep
theorem Hd.one (y:Hd t Pr w g):∀ v ∈ y.cs,v.oneCell'=true:=t.rp.one y.rep
theorem Hd.at (y:Hd t Pr w g) {j:Nat} (h:j < t.rp.size):y.cs[j]? = some (y.cs[j]!):=by
 have:=y.len
 rw [getElem!_pos y.cs j (by omega),List.getElem?_eq_getElem (by omega)]
theorem flatH_at [Inhabited (Hd t Pr w g)] (d:List (Hd t Pr w g)) {j:Nat} (h:j < d.length * t.rp.size):(flatK Hd.cs t.rp.size d.toArray)[j]! = ((d[j / t.rp.size]'(Nat.div_lt_of_lt_mul (by rw [Nat.mul_comm]; exact h))).cs)[j % t.rp.size]!:=by
 rw [get_flatK Hd.cs t.rp.size d.toArray j (by simpa using h)]
 rw [getElem!_pos d.toArray (j / t.rp.size) (by simpa using Nat.div_lt_of_lt_mul (by rw [Nat.mul_comm]; exact h))]
 rfl
theorem rowH_in {base:Nat} {e:TypeId} {v:Value} {l:List t.den} {fps:List (List Nat)} (h:GrowF t.rp base w e v l fps) (h0:0 < l.length) (hn:∀ b ∈ fps.flatten,v.ownBlock ≠ some b) (hP:∀ x ∈ l,Pr x) :
  ∃ g cap cur,v=.slice (some ⟨g,0,none⟩) l.length cap/\base<=g/\w.heap[g]? = some (.cells cur e (0,0))/\l.length<=cap/\cap<=maxLen/\cur.size=cap * t.rp.size/\∃ d:List (Hd t Pr w g),d.map Hd.x=l/\(∀ y ∈ d,∀ b ∈ y.fp,b ∈ fps.flatten) ∧
   ∀ [Inhabited (Hd t Pr w g)],HoldsK Hd.cs t.rp.size w g 0 d.toArray:=by
 obtain ⟨xs,⟨hxl,hor⟩,hfl,he⟩:=h
 rcases hor with ⟨_,hn0⟩|⟨g,cap,cur,hv,hb,hg,hnc,hcm,hcs,htk⟩
 ·omega
 have hob:v.ownBlock=some g:=by rw [hv]; rfl
 have hc:∀ i:Fin l.length,∃ y:Hd t Pr w g,y.x=l[i]/\(∀ b ∈ y.fp,b ∈ fps.flatten)/\∀ j c,y.cs[j]? = some c->xs[i.1 * t.rp.size+j]? = some c:=by
  intro i
  obtain ⟨f,cs,h1,h2,h3⟩:=he i.1 l[i] (List.getElem?_eq_getElem i.2)
  have hf:∀ b ∈ f,b ∈ fps.flatten:=fun b hb=>List.mem_flatten.2 ⟨f,List.mem_of_getElem? h1,hb⟩
  exact ⟨⟨cs,l[i],f,h2,fun hm=>hn g (hf g hm) hob,hP _ (List.getElem_mem i.2)⟩,rfl,hf,h3⟩
 obtain ⟨F,hF⟩:∃ F:Fin l.length->Hd t Pr w g,∀ i:Fin l.length,(F i).x=l[i]/\(∀ b ∈ (F i).fp,b ∈ fps.flatten)/\∀ j c,(F i).cs[j]? = some c->xs[i.1 * t.rp.size+j]? = some c:=⟨fun i=>Classical.choose (hc i),fun i=>Classical.choose_spec (hc i)⟩
 clear hc
 refine ⟨g,cap,cur,hv,hb,hg,hnc,hcm,hcs,List.ofFn F,?_,?_,?_⟩
 ·refine List.ext_getElem (by simp) fun i h1 h2=>?_
  rw [List.getElem_map,List.getElem_ofFn]
  exact (hF ⟨i,h2⟩).1
 ·intro y hy b hb
  obtain ⟨i,rfl⟩:=(List.mem_ofFn).1 hy
  exact (hF i).2.1 b hb
 ·intro _ j hj
  have hj2:j < l.length * t.rp.size:=by simpa using hj
  have hsz:=t.pos
  have hd2:j / t.rp.size < l.length:=Nat.div_lt_of_lt_mul (by rw [Nat.mul_comm]; exact hj2)
  refine ⟨?_,frozen_of_row w g _ cur e hg⟩
  rw [Nat.zero_add,cell_of_row w g j cur e (0,0) hg,<-Array.getElem?_toList]
  show _=some ((flatK Hd.cs t.rp.size _)[j]!)
  rw [flatH_at _ (by simpa using hj2)]
  have hm:=Nat.mod_lt j hsz
  have:=(hF ⟨j / t.rp.size,hd2⟩).2.2 (j % t.rp.size) _ (Hd.at _ hm)
  rw [show (⟨j / t.rp.size,hd2⟩:Fin l.length).1 * t.rp.size+j % t.rp.size=j by rw [Nat.mul_comm]; exact Nat.div_add_mod _ _,<-htk,List.getElem?_take,if_pos (by rw [<-hxl]; simpa [hxl] using hj2)] at this
  rw [this,List.getElem_ofFn]
theorem sortW_belowX [Inhabited (Hd t Pr w g)] (n:Nat) (d:Array (Hd t Pr w g)) (os:Array Obj):BelowX (fun x=>x=g) w.heap.size w (sortWorldK Hd.cs t.rp.size w g 0 n d os):=by
 refine ⟨rfl,rfl,rfl,?_,fun k hk hne=>?_⟩
 ·rw [sortWorldK,size_grow]
  have:(putRowK Hd.cs t.rp.size (Sort.ahead w n) g 0 d).heap.size=w.heap.size:=by unfold putRowK; rw [size_putRow]; rfl
  omega
 ·have hkg:¬ g=k:=fun h=>hne h.symm
  unfold sortWorldK putRowK putRow mapBlock grow
  simp only [heap_ahead]
  rw [Array.getElem?_append_left (by rw [Array.size_modify]; exact hk),Array.getElem?_modify,if_neg hkg]
theorem Hd.keep [Inhabited (Hd t Pr w g)] (y:Hd t Pr w g) {w':World} (h:BelowX (fun x=>x=g) w.heap.size w w'):t.rp.rep w' y.cs y.x y.fp :=
 t.rp.frame y.rep fun b hb=>h.block b (t.rp.lt y.rep b hb) fun e=>y.ne (e ▸ hb)
theorem rowH_out [Inhabited (Hd t Pr w g)] {base:Nat} {w':World} {e:TypeId} {cap n:Nat} {cur:Array Value} {os:Array Obj} {d:List (Hd t Pr w g)} (hb:base<=g) (hg:w.heap[g]? = some (.cells cur e (0,0))) (hcs:cur.size=cap * t.rp.size) (hcm:cap<=maxLen) (hd:d.length<=cap) (m:Nat) (hm:m<=d.length)
  (hw:w'=sortWorldK Hd.cs t.rp.size w g 0 n d.toArray os) :
  GrowF t.rp base w' e (.slice (some ⟨g,0,none⟩) m cap) ((d.take m).map Hd.x) ((d.take m).map Hd.fp)/\w.grownBy w' (some g):=by
 have hgs:g < w.heap.size:=(Array.getElem?_eq_some_iff.1 hg).1
 have hsz:=t.pos
 have hg':w'.heap[g]? = some (.cells (Go.Sort.putCells id 0 (flatK Hd.cs t.rp.size d.toArray) cur) e (0,0)):=by
  subst hw
  unfold sortWorldK putRowK putRow mapBlock grow
  simp only [heap_ahead]
  rw [Array.getElem?_append_left (by rw [Array.size_modify]; exact hgs),Array.getElem?_modify,if_pos rfl,hg]
  rfl
 have hlt:((d.take m).map Hd.x).length=m:=by rw [List.length_map,List.length_take]; omega
 have hmul:d.length * t.rp.size<=cap * t.rp.size:=Nat.mul_le_mul_right _ hd
 have hmul2:m * t.rp.size<=d.length * t.rp.size:=Nat.mul_le_mul_right _ hm
 have hcell:∀ j,j < d.length * t.rp.size->(Go.Sort.putCells id 0 (flatK Hd.cs t.rp.size d.toArray) cur).toList[j]? = some ((flatK Hd.cs t.rp.size d.toArray)[j]!):=by
  intro j hj
  rw [Array.getElem?_toList]
  unfold Go.Sort.putCells
  rw [Array.getElem?_mapIdx,Array.getElem?_eq_getElem (by omega:j < cur.size),Option.map_some,if_pos ⟨Nat.zero_le _,by rw [size_flatK]; simpa using hj⟩]
  rfl
 have hps:(Go.Sort.putCells id 0 (flatK Hd.cs t.rp.size d.toArray) cur).size=cap * t.rp.size:=by unfold Go.Sort.putCells; rw [Array.size_mapIdx,hcs]
 have hbx:BelowX (fun x=>x=g) w.heap.size w w':=by rw [hw]; exact sortW_belowX _ _ _
 refine ⟨⟨(Go.Sort.putCells id 0 (flatK Hd.cs t.rp.size d.toArray) cur).toList.take (m * t.rp.size),⟨?_,.inr ⟨g,cap,_,?_,hb,hg',?_,hcm,hps,?_⟩⟩,?_,fun i x hx=>?_⟩,⟨hbx.os,hbx.tape,hbx.output,hbx.size,fun k hk hne=>hbx.block k hk fun h=>hne (by rw [h])⟩⟩
 ·rw [hlt,List.length_take,Array.length_toList,hps]; omega
 ·rw [hlt]
 ·rw [hlt]; omega
 ·rw [hlt]
 ·rw [hlt,List.length_map,List.length_take]; omega
 ·rw [List.getElem?_map] at hx
  obtain ⟨y,hy,rfl⟩:=Option.map_eq_some_iff.1 hx
  have hi:i < m:=by have:=(List.getElem?_eq_some_iff.1 hy).1; rw [List.length_take] at this; omega
  rw [List.getElem?_take,if_pos hi] at hy
  obtain ⟨hid,hy⟩:=List.getElem?_eq_some_iff.1 hy
  subst hy
  refine ⟨(d[i]).fp,(d[i]).cs,?_,(d[i]).keep hbx,fun j v hj=>?_⟩
  ·rw [List.getElem?_map,List.getElem?_take,if_pos hi,List.getElem?_eq_getElem hid]; rfl
  ·have hj2:j < t.rp.size:=by have:=(List.getElem?_eq_some_iff.1 hj).1; rw [(d[i]).len] at this; exact this
   have hij:i * t.rp.size+j < m * t.rp.size:=by
    have:(i+1) * t.rp.size<=m * t.rp.size:=Nat.mul_le_mul_right _ hi
    rw [Nat.succ_mul] at this; omega
   rw [List.getElem?_take,if_pos hij,hcell _ (by omega),flatH_at d (by omega)]
   have e1:(i * t.rp.size+j) / t.rp.size=i:=by rw [Nat.add_comm,Nat.add_mul_div_right _ _ hsz,Nat.div_eq_of_lt hj2,Nat.zero_add]
   have e2:(i * t.rp.size+j) % t.rp.size=j:=by rw [Nat.add_comm,Nat.add_mul_mod_self_right,Nat.mod_eq_of_lt hj2]
   simp only [e1,e2]
   rw [<-Hd.at _ hj2,hj]
theorem grown_of {W w':World} (h:Below W.heap.size W w') (hd:W.drawn<=w'.drawn):∃ q os',w'=grow (W.drewN q) os':=by
 obtain ⟨p,rfl⟩:=regrown_of_below h
 refine ⟨p.d - W.drawn,p.os,?_⟩
 have:W.drawn<=p.d:=hd
 have e:W.drawn+(p.d - W.drawn)=p.d:=by omega
 show grow { W with drawn:=p.d } p.os=grow { W with drawn:=W.drawn+(p.d - W.drawn) } p.os
 rw [e]
theorem Fn.cmp {P:Program} {f:FuncId} {x y:t.den} {n:Int} (hag:t.isAgg=true) (h:Fn P f [⟨t,x⟩,⟨t,y⟩] false [⟨.int,n⟩]) {W:World} {cs ds:List Value} {f1 f2:List Nat} (hG:Gw P W) (h1:t.rp.rep W cs x f1) (h2:t.rp.rep W ds y f2) :
  Calls P f #[.agg cs.toArray,.agg ds.toArray] W fun e w'=>e=.returned (.int .i64 n)/\∃ q os',w'=grow (W.drewN q) os':=by
 have hc:=h.2 W [.agg cs.toArray,.agg ds.toArray] (fun _=>True) hG ⟨⟨f1,⟨cs,.inl ⟨hag,rfl⟩,h1⟩,fun _ _=>trivial⟩,⟨f2,⟨ds,.inl ⟨hag,rfl⟩,h2⟩,fun _ _=>trivial⟩,trivial⟩
 have hc2:Calls P f #[.agg cs.toArray,.agg ds.toArray] W fun e w'=>e=.returned (.int .i64 n)/\Below W.heap.size W w':=hc.mono fun e w' ⟨hb,v,he,fp,⟨us,hp,hr⟩,_⟩=>by
  refine ⟨?_,hb⟩
  rcases hp with ⟨h,_⟩|⟨_,rfl⟩
  ·cases h
  ·rw [he,List.cons.inj hr.1 |>.1]
 exact (Drn.calls_mono hc2 fun e w' h=>by rw [h.1]; exact fun h=>by cases h).mono fun e w' ⟨⟨h1,h2⟩,h3⟩=>⟨h1,grown_of h2 h3⟩
theorem cmpLaysH [Inhabited (Hd t Pr w g)] {P:Program} {F:FuncId} {cf:t.den->t.den->Int} (hag:t.isAgg=true) (hF:∀ x y,Pr x->Pr y->Fn P F [⟨t,x⟩,⟨t,y⟩] false [⟨.int,cf x y⟩]) {size:Nat} (hG:Gw P w) (hne:∀ g',P.globalNamed tabName=some g'->g ≠ g'):CmpLays P F #[] Hd.cs t.rp.size (fun x y:Hd t Pr w g=>cf x.x y.x) g 0 size w:=by
 intro m os dk _ x y
 have hbx:=sortW_belowX (w:=w) (g:=g) m dk os
 have hW:Gw P (sortWorldK Hd.cs t.rp.size w g 0 m dk os):=hG.upX hbx fun g' h=>⟨(hG g' h).1,fun e=>hne g' h e.symm⟩
 exact (hF x.x y.x x.ok y.ok).cmp hag hW (x.keep hbx) (y.keep hbx)
end
end Go.Proofs.YtcbionahcldlnaaGreat.DW

namespace Go.Proofs.YtcbionahcldlnaaGreat.DW
open Go.RowKit Go.Sort Go.Shelf
section
variable {α β:Type} [Inhabited α] [Inhabited β] (f:α->β)
theorem amap_get {d:Array α} {j:Nat} (h:j < d.size):(d.map f)[j]! = f d[j]!:=by
 rw [getElem!_pos (d.map f) j (by simpa using h),getElem!_pos d j h,Array.getElem_map]
theorem swp_map {d:Array α} {i j:Nat} (hi:i < d.size) (hj:j < d.size):(swp d i j).map f=swp (d.map f) i j:=by
 unfold swp
 rw [amap_get f hi,amap_get f hj]
 rw [Array.map_setIfInBounds,Array.map_setIfInBounds]
theorem size_insInner (lt:α->α->Bool) (a:Nat):∀ (j:Nat) (d:Array α),(insInner lt a j d).size=d.size
 | 0,_=>rfl
 | j+1,d=>by
  rw [insInner]
  split
  ·rw [size_insInner lt a j,size_swp]
  ·rfl
theorem size_insOuter (lt:α->α->Bool) (a b:Nat):∀ (n i:Nat) (d:Array α),b - i=n->(insOuter lt a b i d).size=d.size
 | 0,i,d,h=>by rw [insOuter,if_neg (by omega)]
 | n+1,i,d,h=>by rw [insOuter,if_pos (by omega),size_insOuter lt a b n (i+1) _ (by omega),size_insInner]
theorem size_insertionSort (lt:α->α->Bool) (a b:Nat) (d:Array α):(insertionSort lt d a b).size=d.size:=size_insOuter lt a b _ _ d rfl
theorem insInner_map (lt:β->β->Bool) (a:Nat):∀ (j:Nat) (d:Array α),j < d.size->(insInner (fun x y=>lt (f x) (f y)) a j d).map f=insInner lt a j (d.map f)
 | 0,_,_=>rfl
 | j+1,d,h=>by
  rw [insInner,insInner,amap_get f h,amap_get f (by omega)]
  split
  ·rw [insInner_map lt a j _ (by rw [size_swp]; omega),swp_map f h (by omega)]
  ·rfl
theorem insOuter_map (lt:β->β->Bool) (a b:Nat):∀ (n i:Nat) (d:Array α),b - i=n->b<=d.size->(insOuter (fun x y=>lt (f x) (f y)) a b i d).map f=insOuter lt a b i (d.map f)
 | 0,i,d,h,_=>by
  rw [insOuter,if_neg (by omega)]
  conv=>rhs; rw [insOuter,if_neg (by omega)]
 | n+1,i,d,h,hb=>by
  rw [insOuter,if_pos (by omega),insOuter_map lt a b n (i+1) _ (by omega) (by rw [size_insInner]; exact hb),insInner_map f lt a i d (by omega)]
  conv=>rhs; rw [insOuter,if_pos (by omega)]
theorem insertionSort_map (lt:β->β->Bool) (a b:Nat) (d:Array α) (hb:b<=d.size):(insertionSort (fun x y=>lt (f x) (f y)) d a b).map f=insertionSort lt (d.map f) a b:=insOuter_map f lt a b _ _ d rfl hb
theorem swp_mem {d:Array α} {i j:Nat} (hi:i < d.size) (hj:j < d.size) {x:α} (h:x ∈ swp d i j):x ∈ d:=by
 unfold swp at h
 rcases Array.mem_or_eq_of_mem_setIfInBounds h with h|h
 ·rcases Array.mem_or_eq_of_mem_setIfInBounds h with h|h
  ·exact h
  ·rw [h,getElem!_pos d j hj]; exact Array.getElem_mem hj
 ·rw [h,getElem!_pos d i hi]; exact Array.getElem_mem hi
theorem insInner_mem (lt:α->α->Bool) (a:Nat) {x:α}:∀ (j:Nat) (d:Array α),j < d.size->x ∈ insInner lt a j d->x ∈ d
 | 0,_,_,h=>h
 | j+1,d,hj,h=>by
  rw [insInner] at h
  split at h
  ·exact swp_mem hj (by omega) (insInner_mem lt a j _ (by rw [size_swp]; omega) h)
  ·exact h
theorem insOuter_mem (lt:α->α->Bool) (a b:Nat) {x:α}:∀ (n i:Nat) (d:Array α),b - i=n->b<=d.size->x ∈ insOuter lt a b i d->x ∈ d
 | 0,i,d,h,_,hx=>by rwa [insOuter,if_neg (by omega)] at hx
 | n+1,i,d,h,hb,hx=>by
  rw [insOuter,if_pos (by omega)] at hx
  exact insInner_mem lt a i d (by omega) (insOuter_mem lt a b n (i+1) _ (by omega) (by rw [size_insInner]; exact hb) hx)
end
def isrD (t:Ty) (cf:t.den->t.den->Int) (l:List t.den):List t.den :=
 letI:Inhabited t.den:=⟨t.zero⟩
 (insertionSort (ltOf cf) l.toArray 0 l.length).toList
theorem isrD_len (t:Ty) (cf:t.den->t.den->Int) (l:List t.den):(isrD t cf l).length=l.length:=by
 letI:Inhabited t.den:=⟨t.zero⟩
 show (insertionSort (ltOf cf) l.toArray 0 l.length).toList.length=_
 rw [Array.length_toList,size_insertionSort,List.size_toArray]
theorem isrD_mem {t:Ty} {cf:t.den->t.den->Int} {l:List t.den} {x:t.den} (h:x ∈ isrD t cf l):x ∈ l:=by
 letI:Inhabited t.den:=⟨t.zero⟩
 have h:x ∈ (insertionSort (ltOf cf) l.toArray 0 l.length).toList:=h
 rw [Array.mem_toList_iff] at h
 have:=insOuter_mem (ltOf cf) 0 l.length _ _ l.toArray rfl (by simp) h
 simpa using this
def RowQ (P:Program) (f:FuncId) (e:TypeId) (t:Ty) (l l':List t.den) (zs:List Value):Prop :=
 ∀ (w:World) (base:Nat) (v:Value) (fps:List (List Nat)),Gw P w->(∀ b ∈ fps.flatten,v.ownBlock ≠ some b)->(∀ g,v.ownBlock=some g->∀ g',P.globalNamed tabName=some g'->g ≠ g')->GrowF t.rp base w e v l fps →
  Calls P f (v :: zs).toArray w fun en w'=>∃ fps',en=.returned (.tuple #[])/\GrowF t.rp base w' e v l' fps'/\w.grownBy w' v.ownBlock/\∀ b ∈ fps'.flatten,b ∈ fps.flatten
theorem FnR.ofRaw {P:Program} {f:FuncId} {xs:List Cst} {e:TypeId} {t:Ty} {l l':List t.den} (he:∀ vs w,(callFunc f vs).run P w=.ok (.enter f vs) w) (h:RowQ P f e t l l' (xs.map Cst.val)):FnR P f xs e t l l' false :=
 ⟨he,fun w base v fps hG hn ht hone hg=>(h w base v fps hG hn ht hg).mono fun en w' ⟨fps',h1,h2,h3,h4⟩=>⟨v,fps',h1,fun _=>rfl,hone,rfl,h2,h3,h4⟩⟩
theorem growF_form {t:Ty} {base:Nat} {w:World} {e:TypeId} {v:Value} {l:List t.den} {fps:List (List Nat)} (h:GrowF t.rp base w e v l fps):∃ ad c,v=.slice ad l.length c:=by
 obtain ⟨xs,⟨_,ho⟩,_⟩:=h
 rcases ho with ⟨rfl,h0⟩|⟨g,cap,cur,rfl,_⟩
 ·exact ⟨none,0,by rw [h0]⟩
 ·exact ⟨_,cap,rfl⟩
section
variable {P:Program} {ρ:Ren} {t:Ty} {Pr:t.den->Prop} {F:FuncId} {cf:t.den->t.den->Int}
theorem insRaw (L:SlLaysF0.n20 P ρ) (he:∀ vs w,(callFunc (ρ.f 20) vs).run P w=.ok (.enter (ρ.f 20) vs) w) (hf:∀ vs w,(callFunc F vs).run P w=.ok (.enter F vs) w) (hag:t.isAgg=true) (aE:∀ w,(isAgg (ρ.t 24)).run P w=.ok true w) (zE:∀ w,(Go.sizeOf (ρ.t 24)).run P w=.ok t.rp.size w)
  (hF:∀ x y,Pr x->Pr y->Fn P F [⟨t,x⟩,⟨t,y⟩] false [⟨.int,cf x y⟩]) {e:TypeId} {l:List t.den} (hP:∀ x ∈ l,Pr x) (hl:l.length < 4611686018427387904) :
  RowQ P (ρ.f 20) e t l (isrD t cf l) [.int .i64 0,.int .i64 l.length,.func (.func F) #[] #[]]:=by
 intro w base v fps hG hown htab hg
 cases hl0:l with
 | nil =>
  subst hl0
  rw [show isrD t cf []=[] from List.eq_nil_of_length_eq_zero (isrD_len t cf [])]
  obtain ⟨xs,⟨hxl,hor⟩,hfl,hee⟩:=hg
  have key:∀ p cap,v=.slice p 0 cap->Calls P (ρ.f 20) #[v,.int .i64 0,.int .i64 0,.func (.func F) #[] #[]] w fun en w'=>∃ fps',en=.returned (.tuple #[])/\GrowF t.rp base w' e v ([]:List t.den) fps'/\w.grownBy w' v.ownBlock/\∀ b ∈ fps'.flatten,b ∈ fps.flatten:=by
   rintro p cap rfl
   refine (AnyF.insertionSortCmpFunc_none L p cap (.func (.func F) #[] #[]) w).mono ?_
   rintro en w' ⟨rfl,rfl⟩
   exact ⟨fps,rfl,⟨xs,⟨hxl,hor⟩,hfl,hee⟩,⟨rfl,rfl,rfl,Nat.le_refl _,fun _ _ _=>rfl⟩,fun _ h=>h⟩
  rcases hor with ⟨hv,_⟩|⟨g,cap,cur,hv,_⟩
  ·exact key _ _ hv
  ·exact key _ _ hv
 | cons x0 l0 =>
  rw [<-hl0]
  have h0:0 < l.length:=by rw [hl0]; exact Nat.succ_pos _
  obtain ⟨g,cap,cur,rfl,hb,hgg,hnc,hcm,hcs,d,hdx,hdf,hH⟩:=rowH_in (Pr:=Pr) hg h0 hown hP
  have hdl:d.length=l.length:=by rw [<-hdx,List.length_map]
  letI:Inhabited (Hd t Pr w g):=⟨d[0]'(by omega)⟩
  letI:Inhabited t.den:=⟨t.zero⟩
  have hgs:g < w.heap.size:=(Array.getElem?_eq_some_iff.1 hgg).1
  have hsz:d.toArray.size=l.length:=by rw [List.size_toArray,hdl]
  have hc:=AnyQ.insertionSortCmpFunc L t.rp.size aE zE (Hd.cs (t:=t) (Pr:=Pr) (w:=w) (g:=g)) Hd.len Hd.one (fun x y=>cf x.x y.x) F #[] g 0 cap 0 l.length d.toArray w hf (cmpLaysH hag hF hG (htab g rfl)) hH hgs (Nat.zero_le _) (by omega) (by omega)
  rw [hsz] at hc
  refine Calls.mono hc ?_
  rintro en w' ⟨rfl,n,os,rfl⟩
  generalize hdd:insertionSort (ltOf fun x y:Hd t Pr w g=>cf x.x y.x) d.toArray 0 l.length=dd
  have hds:dd.size=l.length:=by rw [<-hdd,size_insertionSort,hsz]
  have hdl2:dd.toList.length=l.length:=by rw [Array.length_toList,hds]
  have hmap:dd.toList.map Hd.x=isrD t cf l:=by
   have:=insertionSort_map (Hd.x (t:=t) (Pr:=Pr) (w:=w) (g:=g)) (ltOf cf) 0 l.length d.toArray (by omega)
   have e1:d.toArray.map Hd.x=l.toArray:=by rw [List.map_toArray,hdx]
   rw [e1] at this
   show _=(insertionSort (ltOf cf) l.toArray 0 l.length).toList
   rw [<-this,<-hdd,Array.toList_map]
   rfl
  obtain ⟨k1,k2⟩:=rowH_out (base:=base) (n:=n) (os:=os) (d:=dd.toList) hb hgg hcs hcm (Nat.le_trans (Nat.le_of_eq hdl2) hnc) l.length (Nat.le_of_eq hdl2.symm) rfl
  rw [List.take_of_length_le (Nat.le_of_eq hdl2)] at k1
  refine ⟨_,rfl,hmap ▸ k1,k2,fun b hb=>?_⟩
  obtain ⟨ff,hff,hbf⟩:=List.mem_flatten.1 hb
  obtain ⟨y,hy,rfl⟩:=List.mem_map.1 hff
  refine hdf y ?_ b hbf
  rw [Array.mem_toList_iff,<-hdd] at hy
  have:=insOuter_mem _ 0 l.length _ _ d.toArray rfl (by omega) hy
  simpa using this
end
end Go.Proofs.YtcbionahcldlnaaGreat.DW

namespace Go.Proofs.YtcbionahcldlnaaGreat.DW
open Go.RowKit Go.Shelf
def insB_ren:Go.Shelf.Ren:=⟨fun|20=>181|n=>n,fun|0=>0|3=>3|4=>4|22=>153|24=>145|25=>157|n=>n,fun n=>n⟩
theorem insB:SlLaysF0.n20 Tryz.prog insB_ren where
 mixed:=by kernel_rfl
 f20:=⟨"slices.insertionSortCmpFunc[loop.example/g00811/impl.border]",by decide,Tryz.func181.trans (congrArg some (by kernel_rfl))⟩
 t0:=Tryz.underlying0
 a0:=Tryz.isAgg0
 z0:=Tryz.sizeOf0
 v0:=Tryz.zeroValue0
 t3:=Tryz.underlying3
 a3:=Tryz.isAgg3
 z3:=Tryz.sizeOf3
 v3:=Tryz.zeroValue3
 t4:=Tryz.underlying4
 a4:=Tryz.isAgg4
 z4:=Tryz.sizeOf4
 v4:=Tryz.zeroValue4
 t22:=Tryz.underlying153
 a22:=Tryz.isAgg153
 z22:=Tryz.sizeOf153
 v22:=Tryz.zeroValue153
 t25:=Tryz.underlying157
 a25:=Tryz.isAgg157
 z25:=Tryz.sizeOf157
 v25:=Tryz.zeroValue157
def insK_ren:Go.Shelf.Ren:=⟨fun|20=>221|n=>n,fun|0=>0|3=>3|4=>4|22=>149|24=>152|25=>188|n=>n,fun n=>n⟩
theorem insK:SlLaysF0.n20 Tryz.prog insK_ren where
 mixed:=by kernel_rfl
 f20:=⟨"slices.insertionSortCmpFunc[loop.example/g00811/impl.block]",by decide,Tryz.func221.trans (congrArg some (by kernel_rfl))⟩
 t0:=Tryz.underlying0
 a0:=Tryz.isAgg0
 z0:=Tryz.sizeOf0
 v0:=Tryz.zeroValue0
 t3:=Tryz.underlying3
 a3:=Tryz.isAgg3
 z3:=Tryz.sizeOf3
 v3:=Tryz.zeroValue3
 t4:=Tryz.underlying4
 a4:=Tryz.isAgg4
 z4:=Tryz.sizeOf4
 v4:=Tryz.zeroValue4
 t22:=Tryz.underlying149
 a22:=Tryz.isAgg149
 z22:=Tryz.sizeOf149
 v22:=Tryz.zeroValue149
 t25:=Tryz.underlying188
 a25:=Tryz.isAgg188
 z25:=Tryz.sizeOf188
 v25:=Tryz.zeroValue188
abbrev DK:=tBlck.den
def gF (r:DR):Prop:=oD (rdO r)=r
theorem gF_oD {x:Option Rat} (h:okO x):gF (oD x):=by unfold gF; rw [rdO_oD h]
def gB (x:DP):Prop:=gF x.1/\gF x.2
def gK (x:DK):Prop:=gB x.1/\gB x.2
noncomputable def lvl (x:DP):Option Rat:=addO (rdO x.1) (rdO x.2)
theorem okO_lvl (x:DP):okO (lvl x):=okO_add _ _
noncomputable def abB (x y:DP):Bool:=decide (0 < cmpO (lvl x) (lvl y))
noncomputable def cfB (x y:DP):Int:=cmpO (rdO x.1) (rdO y.1)
noncomputable def cfK (x y:DK):Int:=cmpO (lvl x.1) (lvl y.1)
theorem level_fn (x:DP) (hx:gB x):Fn Tryz.prog 140 [⟨tPoint,x⟩] true [⟨tRat,oD (lvl x)⟩]:=by
 have c:=ratAdd_fn (rdO x.1) (rdO x.2) (okO_rdO _) (okO_rdO _)
 rw [hx.1,hx.2] at c
 unfold lvl
 obtain ⟨a,b⟩:=x
 refine fe Tryz.func140 Tryz.ntmps140 Tryz.results140 fun hwf=>?_
 try simp (maxSteps:=9^9) only[go_sem]
 repeat refine AI ?_
 refine cw c ?_
 try simp (maxSteps:=9^9) only[go_sem]
 all_goals repeat refine AI ?_
 all_goals first|kernel_rfl|omega|rfl
theorem isAbove_fn (x y:DP) (hx:gB x) (hy:gB y):Fn Tryz.prog 95 [⟨tPoint,x⟩,⟨tPoint,y⟩] false [⟨.bool,abB x y⟩]:=by
 have c1:=level_fn x hx
 have c2:=level_fn y hy
 have c3:=ratCmp_fn (lvl x) (lvl y) (okO_lvl _) (okO_lvl _)
 unfold abB
 generalize lvl x=p at *
 generalize lvl y=q at *
 obtain ⟨a,b⟩:=x
 obtain ⟨d,e⟩:=y
 refine fe Tryz.func95 Tryz.ntmps95 Tryz.results95 fun hwf=>?_
 try simp (maxSteps:=9^9) only[go_sem]
 repeat refine AI ?_
 refine cw c1 ?_
 try simp (maxSteps:=9^9) only[go_sem]
 repeat refine AI ?_
 refine cw c2 ?_
 try simp (maxSteps:=9^9) only[go_sem]
 repeat refine AI ?_
 refine cw c3 ?_
 try simp (maxSteps:=9^9) only[go_sem]
 all_goals repeat refine AI ?_
 all_goals first|kernel_rfl|omega|rfl
theorem flat_fn (y:Int):Fn Tryz.prog 93 [⟨.int,y⟩] true [⟨tPoint,(oD (inQ y),oD (inQ y))⟩]:=by
 have c:=ratInQ_fn y
 refine fe Tryz.func93 Tryz.ntmps93 Tryz.results93 fun hwf=>?_
 try simp (maxSteps:=9^9) only[go_sem]
 repeat refine AI ?_
 refine cw c ?_
 try simp (maxSteps:=9^9) only[go_sem]
 repeat refine AI ?_
 refine cw c ?_
 try simp (maxSteps:=9^9) only[go_sem]
 all_goals repeat refine AI ?_
 all_goals first|kernel_rfl|omega|rfl
theorem wallsAtC_fn (x y:DP) (hx:gB x) (hy:gB y):Fn Tryz.prog 99 [⟨tPoint,x⟩,⟨tPoint,y⟩] false [⟨.int,cfB x y⟩]:=by
 have c:=ratCmp_fn (rdO x.1) (rdO y.1) (okO_rdO _) (okO_rdO _)
 rw [hx.1,hy.1] at c
 unfold cfB
 obtain ⟨a,b⟩:=x
 obtain ⟨d,e⟩:=y
 refine fe Tryz.func99 Tryz.ntmps99 Tryz.results99 fun hwf=>?_
 try simp (maxSteps:=9^9) only[go_sem]
 repeat refine AI ?_
 refine cw c ?_
 try simp (maxSteps:=9^9) only[go_sem]
 all_goals repeat refine AI ?_
 all_goals first|kernel_rfl|omega|rfl
theorem blocksOfC_fn (x y:DK) (hx:gK x) (hy:gK y):Fn Tryz.prog 142 [⟨tBlck,x⟩,⟨tBlck,y⟩] false [⟨.int,cfK x y⟩]:=by
 have c1:=level_fn x.1 hx.1
 have c2:=level_fn y.1 hy.1
 have c3:=ratCmp_fn (lvl x.1) (lvl y.1) (okO_lvl _) (okO_lvl _)
 unfold cfK
 generalize lvl x.1=p at *
 generalize lvl y.1=q at *
 obtain ⟨⟨a,b⟩,k⟩:=x
 obtain ⟨⟨d,e⟩,l⟩:=y
 refine fe Tryz.func142 Tryz.ntmps142 Tryz.results142 fun hwf=>?_
 try simp (maxSteps:=9^9) only[go_sem]
 repeat refine AI ?_
 refine cw c1 ?_
 try simp (maxSteps:=9^9) only[go_sem]
 repeat refine AI ?_
 refine cw c2 ?_
 try simp (maxSteps:=9^9) only[go_sem]
 repeat refine AI ?_
 refine cw c3 ?_
 try simp (maxSteps:=9^9) only[go_sem]
 all_goals repeat refine AI ?_
 all_goals first|kernel_rfl|omega|rfl
set_option maxHeartbeats 2000000 in
theorem stableB_raw (l:List DP) (hl:l.length < 20) (hP:∀ x ∈ l,gB x):RowQ Tryz.prog 144 145 tPoint l (isrD tPoint cfB l) [.int .i64 l.length,.func (.func 99) #[] #[]]:=by
 intro w base v fps hG hn ht hg
 have hins:RowQ Tryz.prog 181 145 tPoint l (isrD tPoint cfB l) [.int .i64 0,.int .i64 l.length,.func (.func 99) #[] #[]] :=
  insRaw (t:=tPoint) insB (enters_of Tryz.func181 (by kernel_rfl) rfl) (enters_of Tryz.func99 (by kernel_rfl) rfl) rfl Tryz.isAgg145 Tryz.sizeOf145 wallsAtC_fn hP (by omega)
 have hc:=hins w base v fps hG hn ht hg
 have h1:¬ (20:Int)<=(l.length:Int):=by omega
 have h2:¬ (20:Int) < (l.length:Int):=by omega
 clear hins hG hn ht
 show Calls _ _ #[v,.int .i64 l.length,.func (.func 99) #[] #[]] w _
 go_enter Tryz.func144,Tryz.ntmps144
 go_wp2_with fail
 refine wp_loop_rounds 1 ?_
 rw [rounds_succ]
 go_wp2_with (go_at_call 181; refine hc.mono ?_; rintro en w' ⟨fps',rfl,k1,k2,k3⟩)
 refine wp_loop_rounds 1 ?_
 rw [rounds_succ]
 go_wp2_with fail
 go_end0
 exact ⟨fps',rfl,k1,k2,k3⟩
theorem sortB_fn (l:List DP) (hl:l.length < 20) (hP:∀ x ∈ l,gB x):FnR Tryz.prog 98 [.fn 99] 145 tPoint l (isrD tPoint cfB l) false:=by
 refine FnR.ofRaw (enters_of Tryz.func98 (by kernel_rfl) rfl) fun w base v fps hG hn ht hg=>?_
 have hc:=stableB_raw l hl hP w base v fps hG hn ht hg
 obtain ⟨ad,cp,rfl⟩:=growF_form hg
 clear hG hn ht hg
 show Calls _ _ #[.slice ad l.length cp,.func (.func 99) #[] #[]] w _
 go_enter Tryz.func98,Tryz.ntmps98
 go_wp2_with (go_at_call 144; refine hc.mono ?_; rintro en w' ⟨fps',rfl,k1,k2,k3⟩)
 go_end0
 exact ⟨fps',rfl,k1,k2,k3⟩
set_option maxHeartbeats 2000000 in
theorem stableK_raw (l:List DK) (hl:l.length < 20) (hP:∀ x ∈ l,gK x):RowQ Tryz.prog 180 152 tBlck l (isrD tBlck cfK l) [.int .i64 l.length,.func (.func 142) #[] #[]]:=by
 intro w base v fps hG hn ht hg
 have hins:RowQ Tryz.prog 221 152 tBlck l (isrD tBlck cfK l) [.int .i64 0,.int .i64 l.length,.func (.func 142) #[] #[]] :=
  insRaw (t:=tBlck) insK (enters_of Tryz.func221 (by kernel_rfl) rfl) (enters_of Tryz.func142 (by kernel_rfl) rfl) rfl Tryz.isAgg152 Tryz.sizeOf152 blocksOfC_fn hP (by omega)
 have hc:=hins w base v fps hG hn ht hg
 have h1:¬ (20:Int)<=(l.length:Int):=by omega
 have h2:¬ (20:Int) < (l.length:Int):=by omega
 clear hins hG hn ht
 show Calls _ _ #[v,.int .i64 l.length,.func (.func 142) #[] #[]] w _
 go_enter Tryz.func180,Tryz.ntmps180
 go_wp2_with fail
 refine wp_loop_rounds 1 ?_
 rw [rounds_succ]
 go_wp2_with (go_at_call 221; refine hc.mono ?_; rintro en w' ⟨fps',rfl,k1,k2,k3⟩)
 refine wp_loop_rounds 1 ?_
 rw [rounds_succ]
 go_wp2_with fail
 go_end0
 exact ⟨fps',rfl,k1,k2,k3⟩
theorem sortK_fn (l:List DK) (hl:l.length < 20) (hP:∀ x ∈ l,gK x):FnR Tryz.prog 141 [.fn 142] 152 tBlck l (isrD tBlck cfK l) false:=by
 refine FnR.ofRaw (enters_of Tryz.func141 (by kernel_rfl) rfl) fun w base v fps hG hn ht hg=>?_
 have hc:=stableK_raw l hl hP w base v fps hG hn ht hg
 obtain ⟨ad,cp,rfl⟩:=growF_form hg
 clear hG hn ht hg
 show Calls _ _ #[.slice ad l.length cp,.func (.func 142) #[] #[]] w _
 go_enter Tryz.func141,Tryz.ntmps141
 go_wp2_with (go_at_call 180; refine hc.mono ?_; rintro en w' ⟨fps',rfl,k1,k2,k3⟩)
 go_end0
 exact ⟨fps',rfl,k1,k2,k3⟩
set_option maxHeartbeats 1000000 in
theorem eqInts_fn (a b:List Int):Fn Tryz.prog 30 [⟨tInts,a⟩,⟨tInts,b⟩] false [⟨.bool,eqb a b⟩]:=by
 by_cases h0:(a.length:Int)=b.length
 ·have d0:=decide_eq_true h0
  refine fe Tryz.func30 Tryz.ntmps30 Tryz.results30 fun hwf=>?_
  have hl:a.length<=9223372036854775807:=(hwf ⟨tInts,a⟩ (by simp)).1
  try simp (maxSteps:=9^9) only[go_sem,d0]
  refine LoopG.intro _ _ _ (fun i:Nat=>⟨[(0,.sl .int a),(1,.sl .int b),(12,.sc (.int .i64 a.length)),(13,.sc (.int .i64 i))],[]⟩) (fun i=>∀ j,j < i->j < a.length->ni a j=ni b j) (fun i=>a.length - i) 0 ?_ (fun j h=>absurd h (Nat.not_lt_zero _)) ?_
  ·exact WK
  ·rintro i hi
   try simp (maxSteps:=9^9) only[go_sem]
   refine CondW_dec (fun hA=>?_) (fun hA=>?_)
   ·by_cases e:ni a i=ni b i
    ·have d1:decide (ni a i=ni b i)=true:=decide_eq_true e
     try simp (maxSteps:=9^9) only[go_sem,d1]
     repeat refine AI ?_
     try simp (maxSteps:=9^9) only[go_sem,d1]
     repeat refine AI ?_
     refine LoopK.mk (i+1) ?_ (fun j h1 h2=>?_) (by omega)
     ·exact WK
     ·by_cases h3:j < i
      ·exact hi j h3 h2
      ·rw [show j=i by omega]; exact e
    ·have d1:decide (ni a i=ni b i)=false:=decide_eq_false e
     rw [eqb_false (fun h=>e (by rw [h]))]
     try simp (maxSteps:=9^9) only[go_sem,d1]
     repeat refine AI ?_
     try simp (maxSteps:=9^9) only[go_sem,d1]
     all_goals repeat refine AI ?_
     all_goals first|kernel_rfl|omega|rfl
   ·have:a=b:=by
     refine List.ext_getElem (by omega) fun j h1 h2=>?_
     have:=hi j (by omega) h1
     rwa [ni_lt h1,ni_lt h2] at this
    rw [eqb_true this]
    try simp (maxSteps:=9^9) only[go_sem]
 ·have d0:=decide_eq_false h0
  rw [eqb_false (fun h=>h0 (by rw [h]))]
  refine fe Tryz.func30 Tryz.ntmps30 Tryz.results30 fun hwf=>?_
  try simp (maxSteps:=9^9) only[go_sem,d0]
theorem RatEqual_fn (r s:DR):Fn Tryz.prog 112 [⟨tRat,r⟩,⟨tRat,s⟩] false [⟨.bool,eqb r s⟩]:=by
 obtain ⟨⟨n,a⟩,d⟩:=r
 obtain ⟨⟨m,b⟩,e⟩:=s
 have c1:=eqInts_fn a b
 have c2:=eqInts_fn d e
 by_cases h1:n=m
 rotate_left
 ·rw [eqb_false (fun h=>h1 (by injection h with h _; injection h))]
  have k1:(n == m)=false:=by cases n<;>cases m<;>simp_all
  refine fe Tryz.func112 Tryz.ntmps112 Tryz.results112 fun hwf=>?_
  try simp (maxSteps:=9^9) only[go_sem,k1]
  all_goals repeat refine AI ?_
  all_goals first|kernel_rfl|omega|rfl
 have k1:(n == m)=true:=by rw [h1]; exact beq_self_eq_true m
 by_cases h2:a=b
 rotate_left
 ·rw [eqb_false (fun h=>h2 (by injection h with h _; injection h))]
  rw [eqb_false h2] at c1
  refine fe Tryz.func112 Tryz.ntmps112 Tryz.results112 fun hwf=>?_
  try simp (maxSteps:=9^9) only[go_sem,k1]
  repeat refine AI ?_
  repeat refine AI ?_
  refine cw c1 ?_
  try simp (maxSteps:=9^9) only[go_sem]
  all_goals repeat refine AI ?_
  all_goals first|kernel_rfl|omega|rfl
 rw [eqb_true h2] at c1
 by_cases h3:d=e
 ·rw [eqb_true (by rw [h1,h2,h3])]
  rw [eqb_true h3] at c2
  refine fe Tryz.func112 Tryz.ntmps112 Tryz.results112 fun hwf=>?_
  try simp (maxSteps:=9^9) only[go_sem,k1]
  repeat refine AI ?_
  repeat refine AI ?_
  refine cw c1 ?_
  try simp (maxSteps:=9^9) only[go_sem]
  repeat refine AI ?_
  repeat refine AI ?_
  refine cw c2 ?_
  try simp (maxSteps:=9^9) only[go_sem]
  all_goals repeat refine AI ?_
  all_goals first|kernel_rfl|omega|rfl
 ·rw [eqb_false (fun h=>h3 (by injection h))]
  rw [eqb_false h3] at c2
  refine fe Tryz.func112 Tryz.ntmps112 Tryz.results112 fun hwf=>?_
  try simp (maxSteps:=9^9) only[go_sem,k1]
  repeat refine AI ?_
  repeat refine AI ?_
  refine cw c1 ?_
  try simp (maxSteps:=9^9) only[go_sem]
  repeat refine AI ?_
  repeat refine AI ?_
  refine cw c2 ?_
  try simp (maxSteps:=9^9) only[go_sem]
  all_goals repeat refine AI ?_
  all_goals first|kernel_rfl|omega|rfl
@[go_sem] def bC (x:DP):List AV:=[.sc (.bool x.1.1.1),.sl .int x.1.1.2,.sl .int x.1.2,.sc (.bool x.2.1.1),.sl .int x.2.1.2,.sl .int x.2.2]
noncomputable def ownB (lo hi:Option Rat) (e:DE):DP:=(oD (htO e lo),oD (htO e hi))
theorem ownB_ok (lo hi:Option Rat) (e:DE):gB (ownB lo hi e):=⟨gF_oD (okO_ht _ _),gF_oD (okO_ht _ _)⟩
noncomputable def nilB:DP:=(oD none,oD none)
theorem nilB_ok:gB nilB:=⟨gF_oD okO_none,gF_oD okO_none⟩
noncomputable def bkE (lo hi:Option Rat) (s:(DP × DP) × Int) (e:DE):(DP × DP) × Int :=
 if spB e lo hi=true then ((if e.2.2.2=true then (ownB lo hi e,s.1.2) else (s.1.1,ownB lo hi e)),s.2+1) else s
noncomputable def bkI (es:List DE) (lo hi:Option Rat):Nat->(DP × DP) × Int
 | 0=>((nilB,nilB),0)
 | k+1=>bkE lo hi (bkI es lo hi k) (nth (t:=tEdge) es k)
theorem bkE_ok {lo hi:Option Rat} {s:(DP × DP) × Int} {e:DE} (h:gB s.1.1/\gB s.1.2):gB (bkE lo hi s e).1.1/\gB (bkE lo hi s e).1.2:=by
 unfold bkE
 split
 ·split
  ·exact ⟨ownB_ok _ _ _,h.2⟩
  ·exact ⟨h.1,ownB_ok _ _ _⟩
 ·exact h
theorem bkI_ok (es:List DE) (lo hi:Option Rat):∀ k,gB (bkI es lo hi k).1.1/\gB (bkI es lo hi k).1.2
 | 0=>⟨nilB_ok,nilB_ok⟩
 | k+1=>bkE_ok (bkI_ok es lo hi k)
theorem bkI_cnt (es:List DE) (lo hi:Option Rat):∀ k,0<=(bkI es lo hi k).2/\(bkI es lo hi k).2<=k
 | 0=>⟨Int.le_refl _,Int.le_refl _⟩
 | k+1=>by
  have:=bkI_cnt es lo hi k
  show 0<=(bkE lo hi (bkI es lo hi k) (nth (t:=tEdge) es k)).2/\(bkE lo hi (bkI es lo hi k) (nth (t:=tEdge) es k)).2<=((k+1:Nat):Int)
  unfold bkE
  split
  ·dsimp only; omega
  ·omega
noncomputable def bkL (l:List DV) (n:Int) (lo hi:Option Rat):(DP × DP) × Int:=bkI (edL l n) lo hi (edL l n).length
noncomputable def blI (l:List (List DV)) (lo hi:Option Rat):Nat->List DK
 | 0=>[]
 | k+1=>if (bkL (nth (t:=.slice tVec) l k) k lo hi).2=2 then blI l lo hi k++[(bkL (nth (t:=.slice tVec) l k) k lo hi).1] else blI l lo hi k
theorem blI_len (l:List (List DV)) (lo hi:Option Rat):∀ k,(blI l lo hi k).length<=k
 | 0=>Nat.le_refl _
 | k+1=>by
  have:=blI_len l lo hi k
  rw [blI]
  split
  ·rw [List.length_append,List.length_singleton]; omega
  ·omega
theorem blI_ok (l:List (List DV)) (lo hi:Option Rat):∀ k,∀ s ∈ blI l lo hi k,gK s
 | 0,s,h=>by cases h
 | k+1,s,h=>by
  rw [blI] at h
  split at h
  ·rcases List.mem_append.1 h with h|h
   ·exact blI_ok l lo hi k s h
   ·rw [List.mem_singleton.1 h]
    exact bkI_ok _ _ _ _
  ·exact blI_ok l lo hi k s h
noncomputable def blkD (l:List (List DV)) (lo hi:Option Rat):List DK:=isrD tBlck cfK (blI l lo hi l.length)
theorem blkD_ok (l:List (List DV)) (lo hi:Option Rat):∀ s ∈ blkD l lo hi,gK s:=fun s h=>blI_ok l lo hi _ s (isrD_mem h)
theorem blkD_len (l:List (List DV)) (lo hi:Option Rat):(blkD l lo hi).length<=l.length:=by
 unfold blkD; rw [isrD_len]; exact blI_len _ _ _ _
set_option maxHeartbeats 8000000 in
theorem blocksOf_fn (l:List (List DV)) (lo hi:Option Rat) (hp:∀ a ∈ l,polyB a=true) (hl:l.length < 20) (h1:okO lo) (h2:okO hi):Fn Tryz.prog 96 [⟨tVecSS,l⟩,⟨tRat,oD lo⟩,⟨tRat,oD hi⟩] false [⟨.slice tBlck,blkD l lo hi⟩]:=by
 have hs:=sortK_fn (blI l lo hi l.length) (Nat.lt_of_le_of_lt (blI_len l lo hi _) hl) (blI_ok l lo hi _)
 rw [show isrD tBlck cfK (blI l lo hi l.length)=blkD l lo hi from rfl] at hs
 refine fe Tryz.func96 Tryz.ntmps96 Tryz.results96 fun hwf=>?_
 try simp (maxSteps:=9^9) only[go_sem]
 refine LoopG.intro _ _ _ (fun i:Nat=>⟨[(4,.ptr 1 0),(5,.ptr 2 0),(7,.row 0 0),(16,.sl (.slice tVec) l),(17,.sc (.int .i64 l.length)),(18,.sc (.int .i64 i))],[(0,.row 152 tBlck 0 false (blI l lo hi i)),(1,.box (rC lo)),(2,.box (rC hi))]⟩) (fun i=>i<=l.length) (fun i=>l.length - i) 0 ?_ (Nat.zero_le _) ?_
 ·refine Wk.mk [(0,2),(1,0),(2,1)] ?_
  try simp (maxSteps:=9^9) only[go_sem]
  try (and_intros<;>first|rfl|omega|exact ⟨_,rfl⟩)
 ·rintro i hi0
  have hlen:=blI_len l lo hi i
  try simp (maxSteps:=9^9) only[go_sem]
  refine CondW_dec (fun hA=>?_) (fun hA=>?_)
  ·have hlt:i < l.length:=by omega
   have hpa:=hp _ (nth_in (t:=.slice tVec) hlt)
   have c1:=edgesOf_fn (nth (t:=.slice tVec) l i) i (Nat.le_trans (polyB_len hpa) (by decide))
   have hel:=Nat.le_trans (edL_len (nth (t:=.slice tVec) l i) i) (polyB_len hpa)
   have heo:=edL_ok (area:=(i:Int)) (polyB_ok hpa)
   have e:blI l lo hi (i+1)=if (bkI (edL (nth (t:=.slice tVec) l i) i) lo hi (edL (nth (t:=.slice tVec) l i) i).length).2=2 then blI l lo hi i++[(bkI (edL (nth (t:=.slice tVec) l i) i) lo hi (edL (nth (t:=.slice tVec) l i) i).length).1] else blI l lo hi i:=rfl
   generalize edL (nth (t:=.slice tVec) l i) i=es at *
   try simp (maxSteps:=9^9) only[go_sem]
   repeat refine AI ?_
   refine cw c1 ?_
   try simp (maxSteps:=9^9) only[go_sem]
   refine LoopG.intro _ _ _ (fun k:Nat=>⟨[(4,.ptr 1 0),(5,.ptr 2 0),(7,.row 0 0),(10,.ptr 3 0),(11,.sc (.int .i64 (bkI es lo hi k).2)),(16,.sl (.slice tVec) l),(17,.sc (.int .i64 l.length)),(18,.sc (.int .i64 i)),(26,.sl tEdge es),(27,.sc (.int .i64 es.length)),(28,.sc (.int .i64 k))],[(0,.row 152 tBlck 0 false (blI l lo hi i)),(1,.box (rC lo)),(2,.box (rC hi)),(3,.box (bC (bkI es lo hi k).1.1++bC (bkI es lo hi k).1.2))]⟩) (fun k=>k<=es.length) (fun k=>es.length - k) 0 ?_ (Nat.zero_le _) ?_
   ·exact WK
   ·rintro k hk
    have hcn:=bkI_cnt es lo hi k
    try simp (maxSteps:=9^9) only[go_sem]
    refine CondW_dec (fun hB=>?_) (fun hB=>?_)
    ·have hkt:k < es.length:=by omega
     have hv:=heo _ (nth_in (t:=tEdge) hkt)
     have c2:=spans_fn _ hv lo hi h1 h2
     have c3:=heightAt_fn _ hv lo h1
     have c4:=heightAt_fn _ hv hi h2
     have e2:bkI es lo hi (k+1)=bkE lo hi (bkI es lo hi k) (nth (t:=tEdge) es k):=rfl
     unfold bkE ownB at e2
     cases g:spB (nth (t:=tEdge) es k) lo hi<;>rw [g] at c2 e2
     ·rw [if_neg (fun h=>by cases h)] at e2
      try simp (maxSteps:=9^9) only[go_sem]
      repeat refine AI ?_
      repeat refine AI ?_
      refine cw c2 ?_
      try simp (maxSteps:=9^9) only[go_sem]
      repeat refine AI ?_
      refine LoopK.mk (k+1) ?_ (by omega) (by omega)
      rw [e2]
      exact WK
     ·rw [if_pos rfl] at e2
      generalize htO (nth (t:=tEdge) es k) lo=z1 at *
      generalize htO (nth (t:=tEdge) es k) hi=z2 at *
      cases gw:(nth (t:=tEdge) es k).2.2.2<;>rw [gw] at e2
      ·rw [if_neg (fun h=>by cases h)] at e2
       try simp (maxSteps:=9^9) only[go_sem]
       repeat refine AI ?_
       repeat refine AI ?_
       refine cw c2 ?_
       try simp (maxSteps:=9^9) only[go_sem]
       repeat refine AI ?_
       refine cw c3 ?_
       try simp (maxSteps:=9^9) only[go_sem]
       repeat refine AI ?_
       refine cw c4 ?_
       try simp (maxSteps:=9^9) only[go_sem]
       try simp (maxSteps:=9^9) only[go_sem,gw]
       repeat refine AI ?_
       refine LoopK.mk (k+1) ?_ (by omega) (by omega)
       rw [e2]
       exact WK
      ·rw [if_pos rfl] at e2
       try simp (maxSteps:=9^9) only[go_sem]
       repeat refine AI ?_
       repeat refine AI ?_
       refine cw c2 ?_
       try simp (maxSteps:=9^9) only[go_sem]
       repeat refine AI ?_
       refine cw c3 ?_
       try simp (maxSteps:=9^9) only[go_sem]
       repeat refine AI ?_
       refine cw c4 ?_
       try simp (maxSteps:=9^9) only[go_sem]
       try simp (maxSteps:=9^9) only[go_sem,gw]
       repeat refine AI ?_
       refine LoopK.mk (k+1) ?_ (by omega) (by omega)
       rw [e2]
       exact WK
    ·obtain rfl:k=es.length:=by omega
     try simp (maxSteps:=9^9) only[go_sem]
     refine CondW_dec (fun hC=>?_) (fun hC=>?_)
     ·rw [if_pos hC] at e
      try simp (maxSteps:=9^9) only[go_sem]
      repeat refine AI ?_
      refine LoopK.mk (i+1) ?_ (by omega) (by omega)
      rw [e]
      exact WK
     ·rw [if_neg hC] at e
      try simp (maxSteps:=9^9) only[go_sem]
      repeat refine AI ?_
      refine LoopK.mk (i+1) ?_ (by omega) (by omega)
      rw [e]
      exact WK
  ·obtain rfl:i=l.length:=by omega
   clear hlen
   generalize blI l lo hi l.length=S0 at *
   generalize blkD l lo hi=S at *
   try simp (maxSteps:=9^9) only[go_sem]
   repeat refine AI ?_
   refine CallW.r (k:=0) (ver:=0) (o:=false) (hs) ?_
   try simp (maxSteps:=9^9) only[go_sem]
   all_goals repeat refine AI ?_
   all_goals first|kernel_rfl|omega|rfl
abbrev DCl:=tCell.den
noncomputable def scA (lo hi:Option Rat) (ce:DP) (l:List DCl) (x y:DP):List DCl :=
 if (abB y x && abB ce x)=true then l++[(oD lo,oD hi,x.1,x.2,(if abB y ce=true then ce else y))] else l
theorem scA_len (lo hi:Option Rat) (ce:DP) (l:List DCl) (x y:DP):(scA lo hi ce l x y).length<=l.length+1:=by
 unfold scA; split
 ·rw [List.length_append]; exact Nat.le_refl _
 ·exact Nat.le_succ _
theorem ownF_fn {r:DR} (h:gF r):Fn Tryz.prog 66 [⟨tRat,r⟩] true [⟨tRat,r⟩]:=by
 have:=ownO_fn (rdO r) (okO_rdO r)
 rwa [h] at this
set_option maxHeartbeats 4000000 in
theorem slAdd_fn (ver:Nat) (lo hi:Option Rat) (ce x y:DP) (l:List DCl) (h1:okO lo) (h2:okO hi) (hc:gB ce) (hx:gB x) (hy:gB y) (hl:l.length<=1000):FnA Tryz.prog 94 [.agg (bC x),.agg (bC y),.ptr 0 0,.ptr 1 0,.ptr 2 0,.ptr 3 0] [(0,.box (bC ce)),(1,.box [.row 4 ver]),(2,.box (rC lo)),(3,.box (rC hi)),(4,.row 93 tCell ver false l)] (.tup []) [(0,.box (bC ce)),(1,.box [.row 4 (ver+1)]),(2,.box (rC lo)),(3,.box (rC hi)),(4,.row 93 tCell (ver+1) false (scA lo hi ce l x y))]:=by
 have c1:=isAbove_fn y x hy hx
 have c2:=isAbove_fn ce x hc hx
 have c3:=isAbove_fn y ce hy hc
 have o1:=ownO_fn lo h1
 have o2:=ownO_fn hi h2
 have o3:=ownF_fn hx.1
 have o4:=ownF_fn hx.2
 have o5:=ownF_fn hy.1
 have o6:=ownF_fn hy.2
 have o7:=ownF_fn hc.1
 have o8:=ownF_fn hc.2
 unfold scA
 generalize abB y x=a1 at *
 generalize abB ce x=a2 at *
 generalize abB y ce=a3 at *
 obtain ⟨x1,x2⟩:=x
 obtain ⟨y1,y2⟩:=y
 obtain ⟨z1,z2⟩:=ce
 cases a1
 ·rw [if_neg (fun h=>by cases h)]
  refine fnA_enter tabOK mixes Tryz.func94 rfl rfl _ Tryz.ntmps94 _ Tryz.results94 (by simp) (by first|exact .inl rfl|exact .inr ⟨_,rfl⟩) fun β=>?_
  try simp (maxSteps:=9^9) only[go_sem]
  repeat refine AI ?_
  refine cw c1 ?_
  try simp (maxSteps:=9^9) only[go_sem]
  repeat refine AI ?_
  exact WK
 cases a2
 ·rw [if_neg (fun h=>by cases h)]
  refine fnA_enter tabOK mixes Tryz.func94 rfl rfl _ Tryz.ntmps94 _ Tryz.results94 (by simp) (by first|exact .inl rfl|exact .inr ⟨_,rfl⟩) fun β=>?_
  try simp (maxSteps:=9^9) only[go_sem]
  repeat refine AI ?_
  refine cw c1 ?_
  try simp (maxSteps:=9^9) only[go_sem]
  repeat refine AI ?_
  repeat refine AI ?_
  refine cw c2 ?_
  try simp (maxSteps:=9^9) only[go_sem]
  repeat refine AI ?_
  exact WK
 rw [if_pos (show (true && true)=true from rfl)]
 cases a3
 ·rw [if_neg (fun h=>by cases h)]
  refine fnA_enter tabOK mixes Tryz.func94 rfl rfl _ Tryz.ntmps94 _ Tryz.results94 (by simp) (by first|exact .inl rfl|exact .inr ⟨_,rfl⟩) fun β=>?_
  try simp (maxSteps:=9^9) only[go_sem]
  repeat refine AI ?_
  refine cw c1 ?_
  try simp (maxSteps:=9^9) only[go_sem]
  repeat refine AI ?_
  repeat refine AI ?_
  refine cw c2 ?_
  try simp (maxSteps:=9^9) only[go_sem]
  repeat refine AI ?_
  repeat refine AI ?_
  refine cw c3 ?_
  try simp (maxSteps:=9^9) only[go_sem]
  repeat refine AI ?_
  repeat refine AI ?_
  refine cw o1 ?_
  try simp (maxSteps:=9^9) only[go_sem]
  repeat refine AI ?_
  refine cw o2 ?_
  try simp (maxSteps:=9^9) only[go_sem]
  repeat refine AI ?_
  refine cw o3 ?_
  try simp (maxSteps:=9^9) only[go_sem]
  repeat refine AI ?_
  refine cw o4 ?_
  try simp (maxSteps:=9^9) only[go_sem]
  repeat refine AI ?_
  refine cw o5 ?_
  try simp (maxSteps:=9^9) only[go_sem]
  repeat refine AI ?_
  refine cw o6 ?_
  try simp (maxSteps:=9^9) only[go_sem]
  repeat refine AI ?_
  exact WK
 ·rw [if_pos rfl]
  refine fnA_enter tabOK mixes Tryz.func94 rfl rfl _ Tryz.ntmps94 _ Tryz.results94 (by simp) (by first|exact .inl rfl|exact .inr ⟨_,rfl⟩) fun β=>?_
  try simp (maxSteps:=9^9) only[go_sem]
  repeat refine AI ?_
  refine cw c1 ?_
  try simp (maxSteps:=9^9) only[go_sem]
  repeat refine AI ?_
  repeat refine AI ?_
  refine cw c2 ?_
  try simp (maxSteps:=9^9) only[go_sem]
  repeat refine AI ?_
  repeat refine AI ?_
  refine cw c3 ?_
  try simp (maxSteps:=9^9) only[go_sem]
  repeat refine AI ?_
  repeat refine AI ?_
  refine cw o1 ?_
  try simp (maxSteps:=9^9) only[go_sem]
  repeat refine AI ?_
  refine cw o2 ?_
  try simp (maxSteps:=9^9) only[go_sem]
  repeat refine AI ?_
  refine cw o3 ?_
  try simp (maxSteps:=9^9) only[go_sem]
  repeat refine AI ?_
  refine cw o4 ?_
  try simp (maxSteps:=9^9) only[go_sem]
  repeat refine AI ?_
  refine cw o7 ?_
  try simp (maxSteps:=9^9) only[go_sem]
  repeat refine AI ?_
  refine cw o8 ?_
  try simp (maxSteps:=9^9) only[go_sem]
  repeat refine AI ?_
  exact WK
noncomputable def slI (S:List DK) (lo hi:Option Rat) (fl ce:DP):Nat->DP × List DCl
 | 0=>(fl,[])
 | k+1=>((if abB (nth (t:=tBlck) S k).2 (slI S lo hi fl ce k).1=true then (nth (t:=tBlck) S k).2 else (slI S lo hi fl ce k).1),scA lo hi ce (slI S lo hi fl ce k).2 (slI S lo hi fl ce k).1 (nth (t:=tBlck) S k).1)
theorem slI_len (S:List DK) (lo hi:Option Rat) (fl ce:DP):∀ k,(slI S lo hi fl ce k).2.length<=k
 | 0=>Nat.le_refl _
 | k+1=>Nat.le_trans (scA_len _ _ _ _ _ _) (Nat.succ_le_succ (slI_len S lo hi fl ce k))
theorem slI_ok {S:List DK} (hS:∀ s ∈ S,gK s) (lo hi:Option Rat) {fl ce:DP} (hf:gB fl):∀ k,k<=S.length->gB (slI S lo hi fl ce k).1
 | 0,_=>hf
 | k+1,hk=>by
  show gB (if _ then _ else _)
  split
  ·exact (hS _ (nth_in (t:=tBlck) (i:=k) (by omega))).2
  ·exact slI_ok hS lo hi hf k (by omega)
noncomputable def flB (y:Int):DP:=(oD (inQ y),oD (inQ y))
theorem flB_ok {y:Int} (h:y.natAbs<=1000000):gB (flB y):=⟨gF_oD (okO_in h),gF_oD (okO_in h)⟩
noncomputable def slbD (b:DV × DV) (l:List (List DV)) (lo hi:Option Rat):List DCl :=
 scA lo hi (flB b.2.2) (slI (blkD l lo hi) lo hi (flB b.1.2) (flB b.2.2) (blkD l lo hi).length).2 (slI (blkD l lo hi) lo hi (flB b.1.2) (flB b.2.2) (blkD l lo hi).length).1 (flB b.2.2)
theorem slbD_len (b:DV × DV) (l:List (List DV)) (lo hi:Option Rat):(slbD b l lo hi).length<=l.length+1 :=
 Nat.le_trans (scA_len _ _ _ _ _ _) (Nat.succ_le_succ (Nat.le_trans (slI_len _ _ _ _ _ _) (blkD_len _ _ _)))
set_option maxHeartbeats 8000000 in
theorem slabCells_fn (b:DV × DV) (l:List (List DV)) (lo hi:Option Rat) (hb:b.1.2.natAbs<=1000000/\b.2.2.natAbs<=1000000) (hp:∀ a ∈ l,polyB a=true) (hl:l.length < 20) (h1:okO lo) (h2:okO hi):Fn Tryz.prog 47 [⟨tBox,b⟩,⟨tVecSS,l⟩,⟨tRat,oD lo⟩,⟨tRat,oD hi⟩] false [⟨.slice tCell,slbD b l lo hi⟩]:=by
 obtain ⟨⟨b1,b2⟩,⟨b3,b4⟩⟩:=b
 have k1:=flB_ok (y:=b2) hb.1
 have k2:=flB_ok (y:=b4) hb.2
 have c1:=(flat_fn b4).sh
 have c2:=(flat_fn b2).sh
 have c3:=blocksOf_fn l lo hi hp hl h1 h2
 have hS:=blkD_ok l lo hi
 have hSl:=blkD_len l lo hi
 rw [show (oD (inQ b4),oD (inQ b4))=flB b4 from rfl] at c1
 rw [show (oD (inQ b2),oD (inQ b2))=flB b2 from rfl] at c2
 unfold slbD
 dsimp only
 generalize flB b2=fl at *
 generalize flB b4=ce at *
 generalize blkD l lo hi=S at *
 refine fe Tryz.func47 Tryz.ntmps47 Tryz.results47 fun hwf=>?_
 try simp (maxSteps:=9^9) only[go_sem]
 repeat refine AI ?_
 refine cw c1 ?_
 try simp (maxSteps:=9^9) only[go_sem]
 repeat refine AI ?_
 refine cw c2 ?_
 try simp (maxSteps:=9^9) only[go_sem]
 repeat refine AI ?_
 refine cw c3 ?_
 try simp (maxSteps:=9^9) only[go_sem]
 refine LoopG.intro _ _ _ (fun i:Nat=>⟨[(9,.ptr 1 0),(10,.ptr 0 0),(11,.clb 94 [0,1,2,3]),(12,.ptr 5 0),(28,.sl tBlck S),(29,.sc (.int .i64 S.length)),(30,.sc (.int .i64 i))],[(0,.box (bC ce)),(1,.box [.row 4 0]),(2,.box (rC lo)),(3,.box (rC hi)),(4,.row 93 tCell 0 false (slI S lo hi fl ce i).2),(5,.box (bC (slI S lo hi fl ce i).1))]⟩) (fun i=>i<=S.length) (fun i=>S.length - i) 0 ?_ (Nat.zero_le _) ?_
 ·refine Wk.mk [(0,5),(1,4),(2,1),(3,2),(4,3),(5,6)] ?_
  try simp (maxSteps:=9^9) only[go_sem]
  try (and_intros<;>first|rfl|omega|exact ⟨_,rfl⟩)
 ·rintro i hi0
  have hlen:=slI_len S lo hi fl ce i
  have hok:=slI_ok hS lo hi (ce:=ce) k1 i hi0
  try simp (maxSteps:=9^9) only[go_sem]
  refine CondW_dec (fun hA=>?_) (fun hA=>?_)
  ·have hlt:i < S.length:=by omega
   have hg:=hS _ (nth_in (t:=tBlck) hlt)
   have e:slI S lo hi fl ce (i+1)=((if abB (nth (t:=tBlck) S i).2 (slI S lo hi fl ce i).1=true then (nth (t:=tBlck) S i).2 else (slI S lo hi fl ce i).1),scA lo hi ce (slI S lo hi fl ce i).2 (slI S lo hi fl ce i).1 (nth (t:=tBlck) S i).1):=rfl
   have c4:=slAdd_fn 0 lo hi ce (slI S lo hi fl ce i).1 (nth (t:=tBlck) S i).1 (slI S lo hi fl ce i).2 h1 h2 k2 hok hg.1 (by omega)
   have c5:=isAbove_fn (nth (t:=tBlck) S i).2 (slI S lo hi fl ce i).1 hg.2 hok
   cases g:abB (nth (t:=tBlck) S i).2 (slI S lo hi fl ce i).1<;>rw [g] at c5 e
   ·rw [if_neg (fun h=>by cases h)] at e
    try simp (maxSteps:=9^9) only[go_sem]
    repeat refine AI ?_
    repeat refine AI ?_
    refine CallA.mk (c4) ?_
    try simp (maxSteps:=9^9) only[go_sem]
    repeat refine AI ?_
    repeat refine AI ?_
    refine cw c5 ?_
    try simp (maxSteps:=9^9) only[go_sem]
    repeat refine AI ?_
    refine LoopK.mk (i+1) ?_ (by omega) (by omega)
    rw [e]
    exact WK
   ·rw [if_pos rfl] at e
    try simp (maxSteps:=9^9) only[go_sem]
    repeat refine AI ?_
    repeat refine AI ?_
    refine CallA.mk (c4) ?_
    try simp (maxSteps:=9^9) only[go_sem]
    repeat refine AI ?_
    repeat refine AI ?_
    refine cw c5 ?_
    try simp (maxSteps:=9^9) only[go_sem]
    repeat refine AI ?_
    refine LoopK.mk (i+1) ?_ (by omega) (by omega)
    rw [e]
    exact WK
  ·obtain rfl:i=S.length:=by omega
   have c4:=slAdd_fn 0 lo hi ce (slI S lo hi fl ce S.length).1 ce (slI S lo hi fl ce S.length).2 h1 h2 k2 hok k2 (by omega)
   try simp (maxSteps:=9^9) only[go_sem]
   repeat refine AI ?_
   repeat refine AI ?_
   refine CallA.mk (c4) ?_
   try simp (maxSteps:=9^9) only[go_sem]
   all_goals repeat refine AI ?_
   all_goals first|kernel_rfl|omega|rfl
abbrev DWl:=tWall.den
def gC (k:DCl):Prop:=gF k.1/\gF k.2.1/\gF k.2.2.1/\gF k.2.2.2.1/\gF k.2.2.2.2.1/\gF k.2.2.2.2.2
def gW (w:DWl):Prop:=gF w.1/\gF w.2.1/\gF w.2.2
noncomputable def nilR:DR:=oD none
noncomputable def csD (k:DCl) (x:DR):DR × DR × Bool :=
 if eqb x k.1=true then (k.2.2.1,k.2.2.2.2.1,true) else if eqb x k.2.1=true then (k.2.2.2.1,k.2.2.2.2.2,true) else (nilR,nilR,false)
theorem csD_ok {k:DCl} (h:gC k) (x:DR):gF (csD k x).1/\gF (csD k x).2.1:=by
 obtain ⟨h1,h2,h3,h4,h5,h6⟩:=h
 unfold csD
 split
 ·exact ⟨h3,h5⟩
 ·split
  ·exact ⟨h4,h6⟩
  ·exact ⟨gF_oD okO_none,gF_oD okO_none⟩
set_option maxHeartbeats 2000000 in
theorem CellSide_fn (k:DCl) (hk:gC k) (x:DR):Fn Tryz.prog 103 [⟨tCell,k⟩,⟨tRat,x⟩] false [⟨tRat,(csD k x).1⟩,⟨tRat,(csD k x).2.1⟩,⟨.bool,(csD k x).2.2⟩]:=by
 obtain ⟨h1,h2,h3,h4,h5,h6⟩:=hk
 have c1:=RatEqual_fn x k.1
 have c2:=RatEqual_fn x k.2.1
 have o3:=ownF_fn h3
 have o4:=ownF_fn h4
 have o5:=ownF_fn h5
 have o6:=ownF_fn h6
 unfold csD
 clear h1 h2 h3 h4 h5 h6
 obtain ⟨k1,k2,k3,k4,k5,k6⟩:=k
 dsimp only at *
 cases e1:eqb x k1<;>rw [e1] at c1
 rotate_left
 ·rw [if_pos rfl]
  refine fe Tryz.func103 Tryz.ntmps103 Tryz.results103 fun hwf=>?_
  try simp (maxSteps:=9^9) only[go_sem]
  repeat refine AI ?_
  refine cw c1 ?_
  try simp (maxSteps:=9^9) only[go_sem]
  repeat refine AI ?_
  repeat refine AI ?_
  refine cw o3 ?_
  try simp (maxSteps:=9^9) only[go_sem]
  repeat refine AI ?_
  refine cw o5 ?_
  try simp (maxSteps:=9^9) only[go_sem]
  all_goals repeat refine AI ?_
  all_goals first|kernel_rfl|omega|rfl
 rw [if_neg (fun h=>by cases h)]
 cases e2:eqb x k2<;>rw [e2] at c2
 ·rw [if_neg (fun h=>by cases h)]
  refine fe Tryz.func103 Tryz.ntmps103 Tryz.results103 fun hwf=>?_
  try simp (maxSteps:=9^9) only[go_sem]
  repeat refine AI ?_
  refine cw c1 ?_
  try simp (maxSteps:=9^9) only[go_sem]
  repeat refine AI ?_
  repeat refine AI ?_
  refine cw c2 ?_
  try simp (maxSteps:=9^9) only[go_sem]
  exact ⟨⟨rfl,rfl⟩,rfl⟩
 ·rw [if_pos rfl]
  refine fe Tryz.func103 Tryz.ntmps103 Tryz.results103 fun hwf=>?_
  try simp (maxSteps:=9^9) only[go_sem]
  repeat refine AI ?_
  refine cw c1 ?_
  try simp (maxSteps:=9^9) only[go_sem]
  repeat refine AI ?_
  repeat refine AI ?_
  refine cw c2 ?_
  try simp (maxSteps:=9^9) only[go_sem]
  repeat refine AI ?_
  repeat refine AI ?_
  refine cw o4 ?_
  try simp (maxSteps:=9^9) only[go_sem]
  repeat refine AI ?_
  refine cw o6 ?_
  try simp (maxSteps:=9^9) only[go_sem]
  all_goals repeat refine AI ?_
  all_goals first|kernel_rfl|omega|rfl
noncomputable def cmD (k:DCl) (w:DWl):Bool:=(csD k w.1).2.2 && decide (cmpO (maxO (rdO (csD k w.1).1) (rdO w.2.1)) (minO (rdO (csD k w.1).2.1) (rdO w.2.2)) < 0)
set_option maxHeartbeats 2000000 in
theorem cellMeetsWall_fn (k:DCl) (w:DWl) (hk:gC k) (hw:gW w):Fn Tryz.prog 49 [⟨tCell,k⟩,⟨tWall,w⟩] false [⟨.bool,cmD k w⟩]:=by
 have c1:=CellSide_fn k hk w.1
 have hs:=csD_ok hk w.1
 unfold cmD
 generalize csD k w.1=s at *
 obtain ⟨s1,s2,s3⟩:=s
 obtain ⟨w1,w2,w3⟩:=w
 obtain ⟨q1,q2,q3⟩:=hw
 obtain ⟨q4,q5⟩:=hs
 dsimp only at *
 have c2:=ratMax_fn (rdO s1) (rdO w2) (okO_rdO _) (okO_rdO _)
 have c3:=ratMin_fn (rdO s2) (rdO w3) (okO_rdO _) (okO_rdO _)
 have c4:=ratCmp_fn (maxO (rdO s1) (rdO w2)) (minO (rdO s2) (rdO w3)) (okO_max (okO_rdO _) (okO_rdO _)) (okO_min (okO_rdO _) (okO_rdO _))
 rw [q4,q2] at c2
 rw [q5,q3] at c3
 generalize maxO (rdO s1) (rdO w2)=m1 at *
 generalize minO (rdO s2) (rdO w3)=m2 at *
 cases s3
 ·refine fe Tryz.func49 Tryz.ntmps49 Tryz.results49 fun hwf=>?_
  try simp (maxSteps:=9^9) only[go_sem]
  repeat refine AI ?_
  refine cw c1 ?_
  try simp (maxSteps:=9^9) only[go_sem]
  all_goals repeat refine AI ?_
  all_goals first|kernel_rfl|omega|rfl
 ·refine fe Tryz.func49 Tryz.ntmps49 Tryz.results49 fun hwf=>?_
  try simp (maxSteps:=9^9) only[go_sem]
  repeat refine AI ?_
  refine cw c1 ?_
  try simp (maxSteps:=9^9) only[go_sem]
  repeat refine AI ?_
  repeat refine AI ?_
  refine cw c2 ?_
  try simp (maxSteps:=9^9) only[go_sem]
  repeat refine AI ?_
  refine cw c3 ?_
  try simp (maxSteps:=9^9) only[go_sem]
  repeat refine AI ?_
  refine cw c4 ?_
  try simp (maxSteps:=9^9) only[go_sem]
  all_goals repeat refine AI ?_
  all_goals first|kernel_rfl|omega|rfl
def clsL (k:DCl):List DR:=[k.1,k.2.1,k.2.2.1,k.2.2.2.1,k.2.2.2.2.1,k.2.2.2.2.2]
theorem cmpO_r (x y:Option Rat):-1<=cmpO x y/\cmpO x y<=1:=by
 unfold cmpO
 split
 ·unfold cmpQ
  split
  ·omega
  ·split<;>omega
 ·omega
noncomputable def vcD (k:DCl):Bool:=!((clsL k).any fun r=>!okR r) && decide (cmpO (rdO k.1) (rdO k.2.1) < 0) && (decide (cmpO (rdO k.2.2.1) (rdO k.2.2.2.2.1)<=0) && decide (cmpO (rdO k.2.2.2.1) (rdO k.2.2.2.2.2)<=0) && decide (cmpO (rdO k.2.2.1) (rdO k.2.2.2.2.1)+cmpO (rdO k.2.2.2.1) (rdO k.2.2.2.2.2) < 0))
theorem IsValidCell_fn (k:DCl):Fn Tryz.prog 247 [⟨tCell,k⟩] false [⟨.bool,vcD k⟩]:=by
 have c1:=allRats_fn (clsL k)
 have r2:=cmpO_r (rdO k.2.2.1) (rdO k.2.2.2.2.1)
 have r3:=cmpO_r (rdO k.2.2.2.1) (rdO k.2.2.2.2.2)
 cases h:(clsL k).any fun r=>!okR r
 rotate_left
 ·unfold vcD
  rw [h] at c1 ⊢
  unfold clsL at c1
  clear r2 r3 h
  obtain ⟨k1,k2,k3,k4,k5,k6⟩:=k
  dsimp only at *
  refine fe Tryz.func247 Tryz.ntmps247 Tryz.results247 fun hwf=>?_
  try simp (maxSteps:=9^9) only[go_sem]
  repeat refine AI ?_
  refine cw c1 ?_
  try simp (maxSteps:=9^9) only[go_sem]
  all_goals repeat refine AI ?_
  all_goals first|kernel_rfl|omega|rfl
 have ok:=List.any_eq_false.1 h
 have ok:∀ r ∈ clsL k,okR r=true:=fun r hr=>by simpa using ok r hr
 have c2:=ratCmp_fn (rdO k.1) (rdO k.2.1) (okO_rdO _) (okO_rdO _)
 have c3:=ratCmp_fn (rdO k.2.2.1) (rdO k.2.2.2.2.1) (okO_rdO _) (okO_rdO _)
 have c4:=ratCmp_fn (rdO k.2.2.2.1) (rdO k.2.2.2.2.2) (okO_rdO _) (okO_rdO _)
 rw [okR_oD (ok k.1 (by simp [clsL])),okR_oD (ok k.2.1 (by simp [clsL]))] at c2
 rw [okR_oD (ok k.2.2.1 (by simp [clsL])),okR_oD (ok k.2.2.2.2.1 (by simp [clsL]))] at c3
 rw [okR_oD (ok k.2.2.2.1 (by simp [clsL])),okR_oD (ok k.2.2.2.2.2 (by simp [clsL]))] at c4
 unfold vcD
 rw [h] at c1 ⊢
 unfold clsL at c1
 clear h ok
 obtain ⟨k1,k2,k3,k4,k5,k6⟩:=k
 dsimp only at *
 generalize cmpO (rdO k1) (rdO k2)=n1 at *
 generalize cmpO (rdO k3) (rdO k5)=n2 at *
 generalize cmpO (rdO k4) (rdO k6)=n3 at *
 refine fe Tryz.func247 Tryz.ntmps247 Tryz.results247 fun hwf=>?_
 try simp (maxSteps:=9^9) only[go_sem]
 repeat refine AI ?_
 refine cw c1 ?_
 try simp (maxSteps:=9^9) only[go_sem]
 repeat refine AI ?_
 repeat refine AI ?_
 refine cw c2 ?_
 try simp (maxSteps:=9^9) only[go_sem]
 refine CondW_dec (fun hA=>?_) (fun hA=>?_)
 ·rw [decide_eq_false (by omega)]
  try simp (maxSteps:=9^9) only[go_sem]
  all_goals repeat refine AI ?_
  all_goals first|kernel_rfl|omega|rfl
 ·rw [decide_eq_true (by omega:n1 < 0)]
  cases g2:decide (n2<=0)
  ·try simp (maxSteps:=9^9) only[go_sem]
   repeat refine AI ?_
   refine cw c3 ?_
   try simp (maxSteps:=9^9) only[go_sem]
   repeat refine AI ?_
   refine cw c4 ?_
   try simp (maxSteps:=9^9) only[go_sem]
   repeat refine AI ?_
   try simp (maxSteps:=9^9) only[go_sem,g2]
   all_goals repeat refine AI ?_
   all_goals first|kernel_rfl|omega|rfl
  cases g3:decide (n3<=0)
  ·try simp (maxSteps:=9^9) only[go_sem]
   repeat refine AI ?_
   refine cw c3 ?_
   try simp (maxSteps:=9^9) only[go_sem]
   repeat refine AI ?_
   refine cw c4 ?_
   try simp (maxSteps:=9^9) only[go_sem]
   repeat refine AI ?_
   try simp (maxSteps:=9^9) only[go_sem,g2,g3]
   all_goals repeat refine AI ?_
   all_goals first|kernel_rfl|omega|rfl
  ·try simp (maxSteps:=9^9) only[go_sem]
   repeat refine AI ?_
   refine cw c3 ?_
   try simp (maxSteps:=9^9) only[go_sem]
   repeat refine AI ?_
   refine cw c4 ?_
   try simp (maxSteps:=9^9) only[go_sem]
   repeat refine AI ?_
   try simp (maxSteps:=9^9) only[go_sem,g2,g3]
   all_goals repeat refine AI ?_
   all_goals first|kernel_rfl|omega|rfl
noncomputable def icD (k:DCl) (p:DP):Bool:=decide (0 < cmpO (rdO p.1) (rdO k.1)) && decide (cmpO (rdO p.1) (rdO k.2.1) < 0) && (decide (0 < sdP (k.1,k.2.2.1) (k.2.1,k.2.2.2.1) p) && decide (sdP (k.1,k.2.2.2.2.1) (k.2.1,k.2.2.2.2.2) p < 0))
theorem okPt_of {a b:DR} (h1:okR a=true) (h2:okR b=true):okPt (a,b)=true:=by
 show (okR a && okR b)=true
 rw [h1,h2]; rfl
set_option maxHeartbeats 2000000 in
theorem inCell_fn (k:DCl) (p:DP) (ok:∀ r ∈ clsL k,okR r=true) (hp:okPt p=true):Fn Tryz.prog 248 [⟨tCell,k⟩,⟨tPoint,p⟩] false [⟨.bool,icD k p⟩]:=by
 obtain ⟨q1,q2⟩:=Bool.and_eq_true_iff.1 (show (okR p.1 && okR p.2)=true from hp)
 have k1:=ok k.1 (by simp [clsL])
 have k2:=ok k.2.1 (by simp [clsL])
 have c1:=ratCmp_fn (rdO p.1) (rdO k.1) (okO_rdO _) (okO_rdO _)
 have c2:=ratCmp_fn (rdO p.1) (rdO k.2.1) (okO_rdO _) (okO_rdO _)
 have c3:=side_fn (k.1,k.2.2.1) (k.2.1,k.2.2.2.1) p (okPt_of k1 (ok _ (by simp [clsL]))) (okPt_of k2 (ok _ (by simp [clsL]))) hp
 have c4:=side_fn (k.1,k.2.2.2.2.1) (k.2.1,k.2.2.2.2.2) p (okPt_of k1 (ok _ (by simp [clsL]))) (okPt_of k2 (ok _ (by simp [clsL]))) hp
 rw [okR_oD k1,okR_oD q1] at c1
 rw [okR_oD k2,okR_oD q1] at c2
 unfold icD
 clear ok k1 k2
 obtain ⟨k1,k2,k3,k4,k5,k6⟩:=k
 obtain ⟨p1,p2⟩:=p
 dsimp only at *
 generalize cmpO (rdO p1) (rdO k1)=n1 at *
 generalize cmpO (rdO p1) (rdO k2)=n2 at *
 generalize sdP (k1,k3) (k2,k4) (p1,p2)=n3 at *
 generalize sdP (k1,k5) (k2,k6) (p1,p2)=n4 at *
 cases g1:decide (n1<=0)
 rotate_left
 ·rw [decide_eq_false (by have:=of_decide_eq_true g1; omega)]
  refine fe Tryz.func248 Tryz.ntmps248 Tryz.results248 fun hwf=>?_
  try simp (maxSteps:=9^9) only[go_sem]
  repeat refine AI ?_
  refine cw c1 ?_
  try simp (maxSteps:=9^9) only[go_sem]
  try simp (maxSteps:=9^9) only[go_sem,g1]
  all_goals repeat refine AI ?_
  all_goals first|kernel_rfl|omega|rfl
 rw [decide_eq_true (by have:=of_decide_eq_false g1; omega:0 < n1)]
 cases g2:decide (0<=n2)
 rotate_left
 ·rw [decide_eq_false (by have:=of_decide_eq_true g2; omega)]
  refine fe Tryz.func248 Tryz.ntmps248 Tryz.results248 fun hwf=>?_
  try simp (maxSteps:=9^9) only[go_sem]
  repeat refine AI ?_
  refine cw c1 ?_
  try simp (maxSteps:=9^9) only[go_sem]
  try simp (maxSteps:=9^9) only[go_sem,g1]
  repeat refine AI ?_
  refine cw c2 ?_
  try simp (maxSteps:=9^9) only[go_sem]
  try simp (maxSteps:=9^9) only[go_sem,g2]
  all_goals repeat refine AI ?_
  all_goals first|kernel_rfl|omega|rfl
 rw [decide_eq_true (by have:=of_decide_eq_false g2; omega:n2 < 0)]
 cases g3:decide (0 < n3)
 ·refine fe Tryz.func248 Tryz.ntmps248 Tryz.results248 fun hwf=>?_
  try simp (maxSteps:=9^9) only[go_sem]
  repeat refine AI ?_
  refine cw c1 ?_
  try simp (maxSteps:=9^9) only[go_sem]
  try simp (maxSteps:=9^9) only[go_sem,g1]
  repeat refine AI ?_
  refine cw c2 ?_
  try simp (maxSteps:=9^9) only[go_sem]
  try simp (maxSteps:=9^9) only[go_sem,g2]
  repeat refine AI ?_
  repeat refine AI ?_
  refine cw c3 ?_
  try simp (maxSteps:=9^9) only[go_sem]
  try simp (maxSteps:=9^9) only[go_sem,g3]
  all_goals repeat refine AI ?_
  all_goals first|kernel_rfl|omega|rfl
 ·refine fe Tryz.func248 Tryz.ntmps248 Tryz.results248 fun hwf=>?_
  try simp (maxSteps:=9^9) only[go_sem]
  repeat refine AI ?_
  refine cw c1 ?_
  try simp (maxSteps:=9^9) only[go_sem]
  try simp (maxSteps:=9^9) only[go_sem,g1]
  repeat refine AI ?_
  refine cw c2 ?_
  try simp (maxSteps:=9^9) only[go_sem]
  try simp (maxSteps:=9^9) only[go_sem,g2]
  repeat refine AI ?_
  repeat refine AI ?_
  refine cw c3 ?_
  try simp (maxSteps:=9^9) only[go_sem]
  try simp (maxSteps:=9^9) only[go_sem,g3]
  repeat refine AI ?_
  refine cw c4 ?_
  try simp (maxSteps:=9^9) only[go_sem]
  all_goals repeat refine AI ?_
  all_goals first|kernel_rfl|omega|rfl
theorem vcD_ok {k:DCl} (h:vcD k=true):∀ r ∈ clsL k,okR r=true:=by
 unfold vcD at h
 simp only [Bool.and_eq_true,Bool.not_eq_true'] at h
 intro r hr
 simpa using List.any_eq_false.1 h.1.1 r hr
noncomputable def ikD (p:DP) (k:DCl):Bool:=vcD k && icD k p
theorem InCell_fn (k:DCl) (p:DP) (hp:okPt p=true):Fn Tryz.prog 226 [⟨tCell,k⟩,⟨tPoint,p⟩] false [⟨.bool,ikD p k⟩]:=by
 have c1:=IsValidCell_fn k
 have c2:=arePoints1_fn p
 rw [hp] at c2
 unfold ikD
 cases h:vcD k
 ·rw [h] at c1
  obtain ⟨k1,k2,k3,k4,k5,k6⟩:=k
  obtain ⟨p1,p2⟩:=p
  refine fe Tryz.func226 Tryz.ntmps226 Tryz.results226 fun hwf=>?_
  try simp (maxSteps:=9^9) only[go_sem]
  repeat refine AI ?_
  refine cw c1 ?_
  try simp (maxSteps:=9^9) only[go_sem]
  all_goals repeat refine AI ?_
  all_goals first|kernel_rfl|omega|rfl
 ·have c3:=inCell_fn k p (vcD_ok h) hp
  rw [h] at c1
  generalize icD k p=z at *
  clear h
  obtain ⟨k1,k2,k3,k4,k5,k6⟩:=k
  obtain ⟨p1,p2⟩:=p
  refine fe Tryz.func226 Tryz.ntmps226 Tryz.results226 fun hwf=>?_
  try simp (maxSteps:=9^9) only[go_sem]
  repeat refine AI ?_
  refine cw c1 ?_
  try simp (maxSteps:=9^9) only[go_sem]
  repeat refine AI ?_
  repeat refine AI ?_
  refine cw c2 ?_
  try simp (maxSteps:=9^9) only[go_sem]
  repeat refine AI ?_
  refine cw c3 ?_
  try simp (maxSteps:=9^9) only[go_sem]
  all_goals repeat refine AI ?_
  all_goals first|kernel_rfl|omega|rfl
def clsW (w:DWl):List DR:=[w.1,w.2.1,w.2.2]
noncomputable def vwD (w:DWl):Bool:=!((clsW w).any fun r=>!okR r) && decide (cmpO (rdO w.2.1) (rdO w.2.2) < 0)
theorem IsValidWall_fn (w:DWl):Fn Tryz.prog 249 [⟨tWall,w⟩] false [⟨.bool,vwD w⟩]:=by
 have c1:=allRats_fn (clsW w)
 cases h:(clsW w).any fun r=>!okR r
 rotate_left
 ·unfold vwD
  rw [h] at c1 ⊢
  unfold clsW at c1
  clear h
  obtain ⟨k1,k2,k3⟩:=w
  dsimp only at *
  refine fe Tryz.func249 Tryz.ntmps249 Tryz.results249 fun hwf=>?_
  try simp (maxSteps:=9^9) only[go_sem]
  repeat refine AI ?_
  refine cw c1 ?_
  try simp (maxSteps:=9^9) only[go_sem]
  all_goals repeat refine AI ?_
  all_goals first|kernel_rfl|omega|rfl
 have ok:=List.any_eq_false.1 h
 have ok:∀ r ∈ clsW w,okR r=true:=fun r hr=>by simpa using ok r hr
 have c2:=ratCmp_fn (rdO w.2.1) (rdO w.2.2) (okO_rdO _) (okO_rdO _)
 rw [okR_oD (ok w.2.1 (by simp [clsW])),okR_oD (ok w.2.2 (by simp [clsW]))] at c2
 unfold vwD
 rw [h] at c1 ⊢
 unfold clsW at c1
 clear h ok
 obtain ⟨k1,k2,k3⟩:=w
 dsimp only at *
 generalize cmpO (rdO k2) (rdO k3)=n1 at *
 refine fe Tryz.func249 Tryz.ntmps249 Tryz.results249 fun hwf=>?_
 try simp (maxSteps:=9^9) only[go_sem]
 repeat refine AI ?_
 refine cw c1 ?_
 try simp (maxSteps:=9^9) only[go_sem]
 repeat refine AI ?_
 repeat refine AI ?_
 refine cw c2 ?_
 try simp (maxSteps:=9^9) only[go_sem]
 all_goals repeat refine AI ?_
 all_goals first|kernel_rfl|omega|rfl
noncomputable def iwD (w:DWl) (p:DP):Bool:=eqb p.1 w.1 && decide (0 < cmpO (rdO p.2) (rdO w.2.1)) && decide (cmpO (rdO p.2) (rdO w.2.2) < 0)
theorem inWall_fn (w:DWl) (p:DP) (ok:∀ r ∈ clsW w,okR r=true) (hp:okPt p=true):Fn Tryz.prog 250 [⟨tWall,w⟩,⟨tPoint,p⟩] false [⟨.bool,iwD w p⟩]:=by
 obtain ⟨q1,q2⟩:=Bool.and_eq_true_iff.1 (show (okR p.1 && okR p.2)=true from hp)
 have c1:=RatEqual_fn p.1 w.1
 have c2:=ratCmp_fn (rdO p.2) (rdO w.2.1) (okO_rdO _) (okO_rdO _)
 have c3:=ratCmp_fn (rdO p.2) (rdO w.2.2) (okO_rdO _) (okO_rdO _)
 rw [okR_oD q2,okR_oD (ok w.2.1 (by simp [clsW]))] at c2
 rw [okR_oD q2,okR_oD (ok w.2.2 (by simp [clsW]))] at c3
 unfold iwD
 clear ok
 obtain ⟨k1,k2,k3⟩:=w
 obtain ⟨p1,p2⟩:=p
 dsimp only at *
 generalize cmpO (rdO p2) (rdO k2)=n1 at *
 generalize cmpO (rdO p2) (rdO k3)=n2 at *
 cases g0:eqb p1 k1<;>rw [g0] at c1
 ·refine fe Tryz.func250 Tryz.ntmps250 Tryz.results250 fun hwf=>?_
  try simp (maxSteps:=9^9) only[go_sem]
  repeat refine AI ?_
  refine cw c1 ?_
  try simp (maxSteps:=9^9) only[go_sem]
  all_goals repeat refine AI ?_
  all_goals first|kernel_rfl|omega|rfl
 cases g1:decide (0 < n1)
 ·refine fe Tryz.func250 Tryz.ntmps250 Tryz.results250 fun hwf=>?_
  try simp (maxSteps:=9^9) only[go_sem]
  repeat refine AI ?_
  refine cw c1 ?_
  try simp (maxSteps:=9^9) only[go_sem]
  repeat refine AI ?_
  repeat refine AI ?_
  refine cw c2 ?_
  try simp (maxSteps:=9^9) only[go_sem]
  try simp (maxSteps:=9^9) only[go_sem,g1]
  all_goals repeat refine AI ?_
  all_goals first|kernel_rfl|omega|rfl
 ·refine fe Tryz.func250 Tryz.ntmps250 Tryz.results250 fun hwf=>?_
  try simp (maxSteps:=9^9) only[go_sem]
  repeat refine AI ?_
  refine cw c1 ?_
  try simp (maxSteps:=9^9) only[go_sem]
  repeat refine AI ?_
  repeat refine AI ?_
  refine cw c2 ?_
  try simp (maxSteps:=9^9) only[go_sem]
  try simp (maxSteps:=9^9) only[go_sem,g1]
  repeat refine AI ?_
  refine cw c3 ?_
  try simp (maxSteps:=9^9) only[go_sem]
  all_goals repeat refine AI ?_
  all_goals first|kernel_rfl|omega|rfl
theorem vwD_ok {w:DWl} (h:vwD w=true):∀ r ∈ clsW w,okR r=true:=by
 unfold vwD at h
 simp only [Bool.and_eq_true,Bool.not_eq_true'] at h
 intro r hr
 simpa using List.any_eq_false.1 h.1 r hr
noncomputable def iyD (p:DP) (w:DWl):Bool:=vwD w && iwD w p
theorem InWall_fn (w:DWl) (p:DP) (hp:okPt p=true):Fn Tryz.prog 229 [⟨tWall,w⟩,⟨tPoint,p⟩] false [⟨.bool,iyD p w⟩]:=by
 have c1:=IsValidWall_fn w
 have c2:=arePoints1_fn p
 rw [hp] at c2
 unfold iyD
 cases h:vwD w
 ·rw [h] at c1
  obtain ⟨k1,k2,k3⟩:=w
  obtain ⟨p1,p2⟩:=p
  refine fe Tryz.func229 Tryz.ntmps229 Tryz.results229 fun hwf=>?_
  try simp (maxSteps:=9^9) only[go_sem]
  repeat refine AI ?_
  refine cw c1 ?_
  try simp (maxSteps:=9^9) only[go_sem]
  all_goals repeat refine AI ?_
  all_goals first|kernel_rfl|omega|rfl
 ·have c3:=inWall_fn w p (vwD_ok h) hp
  rw [h] at c1
  generalize iwD w p=z at *
  clear h
  obtain ⟨k1,k2,k3⟩:=w
  obtain ⟨p1,p2⟩:=p
  refine fe Tryz.func229 Tryz.ntmps229 Tryz.results229 fun hwf=>?_
  try simp (maxSteps:=9^9) only[go_sem]
  repeat refine AI ?_
  refine cw c1 ?_
  try simp (maxSteps:=9^9) only[go_sem]
  repeat refine AI ?_
  repeat refine AI ?_
  refine cw c2 ?_
  try simp (maxSteps:=9^9) only[go_sem]
  repeat refine AI ?_
  refine cw c3 ?_
  try simp (maxSteps:=9^9) only[go_sem]
  all_goals repeat refine AI ?_
  all_goals first|kernel_rfl|omega|rfl
end Go.Proofs.YtcbionahcldlnaaGreat.DW

namespace Go.Proofs.YtcbionahcldlnaaGreat.DW
open Go.RowKit Go.Shelf
def sortI_ren:Go.Shelf.Ren:=⟨fun|0=>0|1=>1|2=>2|107=>25|108=>62|111=>30|122=>204|125=>108|128=>157|129=>158|189=>55|212=>145|215=>194|216=>154|257=>107|263=>183|264=>184|294=>148|295=>149|296=>150|297=>151|298=>152|299=>153|300=>155|301=>156|328=>189|329=>190|330=>191|331=>192|332=>193|343=>230|347=>273|348=>274|349=>275|350=>276|351=>277|352=>278|353=>279|354=>280|355=>281|356=>282|357=>283|358=>284|359=>285|360=>286|361=>287|366=>289|n=>n,fun|0=>0|1=>1|2=>2|3=>3|4=>4|5=>5|6=>6|7=>7|8=>8|9=>9|10=>10|11=>11|12=>12|13=>13|14=>14|15=>15|16=>16|17=>17|18=>18|19=>19|20=>20|21=>21|28=>31|29=>65|30=>115|34=>70|35=>109|37=>22|43=>242|45=>245|46=>114|47=>165|51=>205|52=>204|53=>207|54=>206|80=>289|81=>295|109=>190|110=>191|111=>83|112=>200|114=>162|127=>299|131=>202|134=>164|146=>225|147=>226|148=>227|149=>228|164=>304|181=>195|182=>196|183=>197|184=>198|185=>199|186=>201|187=>203|218=>231|219=>232|220=>233|221=>234|222=>235|223=>236|228=>261|229=>193|230=>262|238=>290|239=>291|240=>292|241=>293|242=>294|243=>296|244=>297|245=>298|246=>300|247=>301|248=>302|249=>303|n=>n,fun n=>n⟩
theorem sortI:Lays.n189 Tryz.prog sortI_ren:={
 mixed:=by kernel_rfl
 f125:=Tryz.func108.trans (congrArg some (by kernel_rfl))
 f128:=Tryz.func157.trans (congrArg some (by kernel_rfl))
 f129:=Tryz.func158.trans (congrArg some (by kernel_rfl))
 f189:=Tryz.func55.trans (congrArg some (by kernel_rfl))
 f215:=Tryz.func194.trans (congrArg some (by kernel_rfl))
 f216:=Tryz.func154.trans (congrArg some (by kernel_rfl))
 f257:=Tryz.func107.trans (congrArg some (by kernel_rfl))
 f294:=Tryz.func148.trans (congrArg some (by kernel_rfl))
 f295:=Tryz.func149.trans (congrArg some (by kernel_rfl))
 f296:=Tryz.func150.trans (congrArg some (by kernel_rfl))
 f297:=Tryz.func151.trans (congrArg some (by kernel_rfl))
 f298:=Tryz.func152.trans (congrArg some (by kernel_rfl))
 f299:=Tryz.func153.trans (congrArg some (by kernel_rfl))
 f300:=Tryz.func155.trans (congrArg some (by kernel_rfl))
 f301:=Tryz.func156.trans (congrArg some (by kernel_rfl))
 f328:=Tryz.func189.trans (congrArg some (by kernel_rfl))
 f329:=Tryz.func190.trans (congrArg some (by kernel_rfl))
 f330:=Tryz.func191.trans (congrArg some (by kernel_rfl))
 f331:=Tryz.func192.trans (congrArg some (by kernel_rfl))
 f332:=Tryz.func193.trans (congrArg some (by kernel_rfl))
 f343:=Tryz.func230.trans (congrArg some (by kernel_rfl))
 t0:=Tryz.underlying0
 a0:=Tryz.isAgg0
 z0:=Tryz.sizeOf0
 v0:=Tryz.zeroValue0
 t3:=Tryz.underlying3
 a3:=Tryz.isAgg3
 z3:=Tryz.sizeOf3
 v3:=Tryz.zeroValue3
 t4:=Tryz.underlying4
 a4:=Tryz.isAgg4
 z4:=Tryz.sizeOf4
 v4:=Tryz.zeroValue4
 t5:=Tryz.underlying5
 a5:=Tryz.isAgg5
 z5:=Tryz.sizeOf5
 v5:=Tryz.zeroValue5
 t9:=Tryz.underlying9
 a9:=Tryz.isAgg9
 z9:=Tryz.sizeOf9
 v9:=Tryz.zeroValue9
 t28:=Tryz.underlying31
 a28:=Tryz.isAgg31
 z28:=Tryz.sizeOf31
 v28:=Tryz.zeroValue31
 t46:=Tryz.underlying114
 a46:=Tryz.isAgg114
 z46:=Tryz.sizeOf114
 v46:=Tryz.zeroValue114
 t51:=Tryz.underlying205
 a51:=Tryz.isAgg205
 z51:=Tryz.sizeOf205
 v51:=Tryz.zeroValue205
 t53:=Tryz.underlying207
 a53:=Tryz.isAgg207
 z53:=Tryz.sizeOf207
 v53:=Tryz.zeroValue207
 t131:=Tryz.underlying202
 a131:=Tryz.isAgg202
 z131:=Tryz.sizeOf202
 v131:=Tryz.zeroValue202
 t182:=Tryz.underlying196
 a182:=Tryz.isAgg196
 z182:=Tryz.sizeOf196
 v182:=Tryz.zeroValue196
 t183:=Tryz.underlying197
 a183:=Tryz.isAgg197
 z183:=Tryz.sizeOf197
 v183:=Tryz.zeroValue197
 t218:=Tryz.underlying231
 a218:=Tryz.isAgg231
 z218:=Tryz.sizeOf231
 v218:=Tryz.zeroValue231
 t222:=Tryz.underlying235
 a222:=Tryz.isAgg235
 z222:=Tryz.sizeOf235
 v222:=Tryz.zeroValue235
 t228:=Tryz.underlying261
 a228:=Tryz.isAgg261
 z228:=Tryz.sizeOf261
 v228:=Tryz.zeroValue261
 t229:=Tryz.underlying193
 a229:=Tryz.isAgg193
 z229:=Tryz.sizeOf193
 v229:=Tryz.zeroValue193 }
def compI_ren:Go.Shelf.Ren:=⟨fun|0=>0|1=>1|2=>2|15=>64|20=>56|31=>154|37=>194|40=>273|41=>274|42=>275|43=>276|44=>277|45=>278|46=>279|47=>280|48=>281|49=>282|50=>283|51=>284|52=>285|53=>286|54=>287|55=>289|n=>n,fun|0=>0|1=>1|2=>2|3=>3|4=>4|5=>5|6=>6|7=>7|8=>8|9=>9|10=>10|11=>11|12=>12|13=>13|14=>14|15=>15|16=>16|17=>17|18=>18|19=>19|20=>20|21=>21|22=>31|23=>110|33=>202|36=>70|40=>114|41=>200|42=>83|45=>109|46=>289|47=>290|48=>291|49=>292|50=>293|51=>294|52=>295|53=>205|54=>296|55=>297|56=>298|57=>299|58=>300|59=>301|60=>302|61=>303|62=>304|n=>n,fun n=>n⟩
theorem compI:Lays2.n20 Tryz.prog compI_ren:={
 mixed:=by kernel_rfl
 f20:=Tryz.func56.trans (congrArg some (by kernel_rfl))
 t0:=Tryz.underlying0
 a0:=Tryz.isAgg0
 z0:=Tryz.sizeOf0
 v0:=Tryz.zeroValue0
 t3:=Tryz.underlying3
 a3:=Tryz.isAgg3
 z3:=Tryz.sizeOf3
 v3:=Tryz.zeroValue3
 t4:=Tryz.underlying4
 a4:=Tryz.isAgg4
 z4:=Tryz.sizeOf4
 v4:=Tryz.zeroValue4
 t22:=Tryz.underlying31
 a22:=Tryz.isAgg31
 z22:=Tryz.sizeOf31
 v22:=Tryz.zeroValue31
 i3:=by kernel_rfl }
end Go.Proofs.YtcbionahcldlnaaGreat.DW

namespace Go.Proofs.YtcbionahcldlnaaGreat.DW
open Go.RowKit Go.Sort
theorem rep_int {w:World} {cs:List Value} {x:Int} {f:List Nat} (h:Ty.int.rp.rep w cs x f):cs=[.int .i64 x]/\f=[]/\I64 x:=h
theorem int_rep {w:World} {x:Int} (h:I64 x):Ty.int.rp.rep w [.int .i64 x] x []:=⟨rfl,rfl,h⟩
theorem rowI_in {base:Nat} {w:World} {e:TypeId} {v:Value} {l:List Int} {fps:List (List Nat)} (h:GrowF Ty.int.rp base w e v l fps) (h0:0 < l.length) :
  ∃ g cap cur,v=.slice (some ⟨g,0,none⟩) l.length cap/\base<=g/\w.heap[g]? = some (.cells cur e (0,0))/\l.length<=cap/\cap<=maxLen/\cur.size=cap/\Go.Sort.Holds (Value.int .i64) w g 0 l.toArray/\∀ x ∈ l,I64 x:=by
 obtain ⟨xs,⟨hxl,hor⟩,hfl,he⟩:=h
 rcases hor with ⟨_,hn⟩|⟨g,cap,cur,hv,hb,hg,hnc,hcm,hcs,htk⟩
 ·omega
 rw [show Ty.int.rp.size=1 from rfl,Nat.mul_one] at hxl hcs htk
 refine ⟨g,cap,cur,hv,hb,hg,hnc,hcm,hcs,fun j hj=>?_,fun x hx=>?_⟩
 ·have hj2:j < l.length:=by simpa using hj
  refine ⟨?_,frozen_of_row w g _ cur e hg⟩
  rw [Nat.zero_add,cell_of_row w g j cur e (0,0) hg,<-Array.getElem?_toList]
  obtain ⟨f,cs,_,h2,h3⟩:=he j (l[j]'hj2) (List.getElem?_eq_getElem _)
  obtain ⟨rfl,_⟩:=rep_int h2
  have:=h3 0 _ rfl
  rw [show Ty.int.rp.size=1 from rfl,show j * 1+0=j by omega,<-htk,List.getElem?_take,if_pos hj2] at this
  rw [this,getElem!_pos l.toArray j (by simpa using hj2)]
  rfl
 ·obtain ⟨i,hi,rfl⟩:=List.getElem_of_mem hx
  obtain ⟨f,cs,_,h2,_⟩:=he i l[i] (List.getElem?_eq_getElem hi)
  exact (rep_int h2).2.2
theorem rowI_out {base:Nat} {w w':World} {e:TypeId} {g cap n:Nat} {cur:Array Value} {os:Array Obj} {d:List Int} (hb:base<=g) (hg:w.heap[g]? = some (.cells cur e (0,0))) (hcs:cur.size=cap) (hcm:cap<=maxLen) (hd:d.length<=cap) (hI:∀ x ∈ d,I64 x) (m:Nat) (hm:m<=d.length)
  (hw:w'=grow (putRow (Value.int .i64) (Sort.ahead w n) g 0 d.toArray) os) :
  GrowF Ty.int.rp base w' e (.slice (some ⟨g,0,none⟩) m cap) (d.take m) (List.replicate m [])/\w.grownBy w' (some g):=by
 have hgs:g < w.heap.size:=(Array.getElem?_eq_some_iff.1 hg).1
 have hg':w'.heap[g]? = some (.cells (Go.Sort.putCells (Value.int .i64) 0 d.toArray cur) e (0,0)):=by
  subst hw
  unfold putRow mapBlock grow
  simp only [heap_ahead]
  rw [Array.getElem?_append_left (by rw [Array.size_modify]; exact hgs),Array.getElem?_modify,if_pos rfl,hg]
  rfl
 have hlt:(d.take m).length=m:=by rw [List.length_take]; omega
 have hcell:∀ t (ht:t < d.length),(Go.Sort.putCells (Value.int .i64) 0 d.toArray cur).toList[t]? = some (.int .i64 (d[t]'ht)):=by
  intro t ht
  rw [Array.getElem?_toList]
  unfold Go.Sort.putCells
  rw [Array.getElem?_mapIdx,Array.getElem?_eq_getElem (by omega:t < cur.size),Option.map_some,if_pos ⟨Nat.zero_le _,by simpa using ht⟩,getElem!_pos d.toArray (t - 0) (by simpa using ht)]
  rfl
 have hps:(Go.Sort.putCells (Value.int .i64) 0 d.toArray cur).size=cap:=by unfold Go.Sort.putCells; rw [Array.size_mapIdx,hcs]
 refine ⟨⟨(Go.Sort.putCells (Value.int .i64) 0 d.toArray cur).toList.take m,⟨?_,.inr ⟨g,cap,_,?_,hb,hg',?_,hcm,?_,?_⟩⟩,?_,fun i x hx=>?_⟩,?_⟩
 ·rw [hlt,show Ty.int.rp.size=1 from rfl,List.length_take,Array.length_toList,hps]; omega
 ·rw [hlt]
 ·rw [hlt]; omega
 ·rw [hps,show Ty.int.rp.size=1 from rfl,Nat.mul_one]
 ·rw [hlt,show Ty.int.rp.size=1 from rfl,Nat.mul_one]
 ·rw [hlt,List.length_replicate]
 ·have hi:i < m:=by have:=(List.getElem?_eq_some_iff.1 hx).1; omega
  rw [List.getElem?_take,if_pos hi] at hx
  obtain ⟨hid,hx⟩:=List.getElem?_eq_some_iff.1 hx
  subst hx
  refine ⟨[],[.int .i64 d[i]],by simp [hi],int_rep (hI _ (List.getElem_mem hid)),fun j v hj=>?_⟩
  have hj2:j=0:=by have:=(List.getElem?_eq_some_iff.1 hj).1; simp at this; omega
  subst hj2
  rw [show Ty.int.rp.size=1 from rfl,show i * 1+0=i by omega,List.getElem?_take,if_pos hi,hcell i hid]
  exact hj
 ·subst hw
  refine ⟨rfl,rfl,rfl,?_,fun k hk hne=>?_⟩
  ·rw [size_grow,size_putRow]
   show w.heap.size<=w.heap.size+_
   omega
  ·have hkg:g ≠ k:=fun h=>hne (by rw [h])
   unfold putRow mapBlock grow
   simp only [heap_ahead]
   rw [Array.getElem?_append_left (by rw [Array.size_modify]; exact hk),Array.getElem?_modify,if_neg hkg]
theorem FnR.ofI {P:Program} {f:FuncId} {xs:List Cst} {e:TypeId} {l l':List Int} (he:∀ vs w,(callFunc f vs).run P w=.ok (.enter f vs) w) (ret:Bool) (h00:l.length=0->l'.length=0)
  (d0:∀ (p:Option Addr) (cap:Nat) (w:World),Calls P f (.slice p 0 cap :: xs.map Cst.val).toArray w fun en w'=>en=.returned (if ret then .slice p 0 cap else .tuple #[])/\w'=w)
  (d:(∀ x ∈ l,I64 x)->∀ (w:World) (g cap:Nat),g < w.heap.size->l.length<=cap->cap<=maxLen->Go.Sort.Holds (Value.int .i64) w g 0 l.toArray →
   Calls P f (.slice (some ⟨g,0,none⟩) l.length cap :: xs.map Cst.val).toArray w fun en w'=>∃ (dd:List Int) (n:Nat) (os:Array Obj),en=.returned (if ret then .slice (some ⟨g,0,none⟩) l'.length cap else .tuple #[])/\(ret=false->l'.length=l.length)/\dd.length=l.length/\(∀ x ∈ dd,x ∈ l\/x=0)/\l'=dd.take l'.length/\l'.length<=dd.length/\w'=grow (putRow (Value.int .i64) (Sort.ahead w n) g 0 dd.toArray) os):FnR P f xs e .int l l' ret:=by
 refine ⟨he,fun w base v fps _ _ _ hone hgr=>?_⟩
 rcases Nat.eq_zero_or_pos l.length with h0|h0
 ·have hl:l=[]:=List.eq_nil_of_length_eq_zero h0
  have hl':l'=[]:=List.eq_nil_of_length_eq_zero (h00 h0)
  subst hl; subst hl'
  obtain ⟨p,cap,rfl⟩:=growF_form hgr
  refine (d0 p cap w).mono ?_
  rintro en w' ⟨rfl,rfl⟩
  exact ⟨_,fps,rfl,fun _=>rfl,hone,rfl,hgr,⟨rfl,rfl,rfl,Nat.le_refl _,fun _ _ _=>rfl⟩,fun b hb=>hb⟩
 obtain ⟨g,cap,cur,rfl,hb,hg,hnc,hcm,hcs,hH,hI⟩:=rowI_in hgr h0
 refine (d hI w g cap (Array.getElem?_eq_some_iff.1 hg).1 hnc hcm hH).mono ?_
 rintro en w' ⟨dd,n,os,h1,h2,h3,h4,h5,h6,h7⟩
 have hI2:∀ x ∈ dd,I64 x:=fun x hx=>by
  rcases h4 x hx with h|rfl
  ·exact hI x h
  ·show I64 0; unfold I64; omega
 obtain ⟨k1,k2⟩:=rowI_out (base:=base) hb hg hcs hcm (by omega) hI2 l'.length h6 h7
 rw [<-h5] at k1
 exact ⟨.slice (some ⟨g,0,none⟩) l'.length cap,_,h1,fun hr=>by rw [h2 hr],rfl,rfl,k1,k2,fun b hb=>by
  obtain ⟨f,hf,hb⟩:=List.mem_flatten.1 hb
  rw [(List.mem_replicate.1 hf).2] at hb; cases hb⟩
def leZ (x y:Int):Bool:=decide (x<=y)
theorem sortI_fn (l:List Int) (hn:l.length<=1048576):FnR Tryz.prog 55 [] 3 .int l (l.mergeSort leZ) false:=by
 refine FnR.ofI (enters_of Tryz.func55 (by kernel_rfl) rfl) false (fun h=>by rw [List.length_mergeSort]; exact h) (fun p cap w=>Any.slices_Sort_int_none sortI p cap w) fun hI w g cap hg hc hcm hH=>?_
 refine Calls.mono (Any.slices_Sort_int sortI g 0 cap l w hH hg (by omega)) ?_
 rintro en w' ⟨rfl,n,os,rfl⟩
 exact ⟨l.mergeSort leZ,n,os,rfl,fun _=>List.length_mergeSort _,List.length_mergeSort _,fun x hx=>.inl ((List.mergeSort_perm _ _).mem_iff.1 hx),(List.take_length ..).symm,Nat.le_refl _,rfl⟩
theorem cmpI_len (l:List Int):(Lib.compact l).length<=l.length:=by
 unfold Lib.compact Lib.compactUpTo
 rw [List.length_map]
 exact Nat.le_trans (List.length_filter_le _ _) (by rw [List.length_range]; exact Nat.le_refl _)
theorem cmpI_mem {l:List Int} {x:Int} (h:x ∈ Lib.compact l):x ∈ l:=by
 unfold Lib.compact Lib.compactUpTo at h
 obtain ⟨j,hj,rfl⟩:=List.mem_map.1 h
 have:=List.mem_range.1 (List.mem_filter.1 hj).1
 rw [getElem!_pos l.toArray j (by simpa using this)]
 simp
theorem compactI_fn (l:List Int) (hn:l.length<=1048576):FnR Tryz.prog 56 [] 3 .int l (Lib.compact l) true:=by
 have hl:=cmpI_len l
 refine FnR.ofI (enters_of Tryz.func56 (by kernel_rfl) rfl) true (fun h=>by omega) (fun p cap w=>Any.slices_Compact_int_empty compI p cap w) fun hI w g cap hg hc hcm hH=>?_
 refine Calls.mono (Any.slices_Compact_int compI g 0 cap l w hH (by omega) hc) ?_
 rintro en w' ⟨rfl,n,rfl⟩
 refine ⟨Lib.compact l++List.replicate (l.length - (Lib.compact l).length) 0,n,#[],rfl,(fun h=>by cases h),by rw [List.length_append,List.length_replicate]; omega,fun x hx=>?_,by rw [List.take_left],by rw [List.length_append]; omega,?_⟩
 ·rcases List.mem_append.1 hx with h|h
  ·exact .inl (cmpI_mem h)
  ·exact .inr (List.mem_replicate.1 h).2
 ·rw [grow_empty]
theorem sortE_fn:Fn Tryz.prog 55 [⟨tInts,[]⟩] false []:=by
 refine ⟨enters_of Tryz.func55 (by kernel_rfl) rfl,fun w vs S _ ha=>?_⟩
 match vs,ha with
 | [v],⟨⟨fp,⟨cs,hp,hr⟩,hs⟩,_⟩ =>
  rcases hp with ⟨h,_⟩|⟨_,rfl⟩
  ·cases h
  obtain ⟨ad,cc,rfl,_⟩:=slice_lt (t:=.int) hr
  exact (Any.slices_Sort_int_none sortI ad cc w).mono fun e w' ⟨h1,h2⟩=>by
   subst h1; subst h2
   exact ⟨Below.refl _ _,.tuple #[],rfl,[],rfl,trivial⟩
theorem compactE_fn:Fn Tryz.prog 56 [⟨tInts,[]⟩] false [⟨tInts,[]⟩]:=by
 refine ⟨enters_of Tryz.func56 (by kernel_rfl) rfl,fun w vs S _ ha=>?_⟩
 match vs,ha with
 | [v],⟨⟨fp,⟨cs,hp,hr⟩,hs⟩,_⟩ =>
  rcases hp with ⟨h,_⟩|⟨_,rfl⟩
  ·cases h
  obtain ⟨ad,cc,rfl,_⟩:=slice_lt (t:=.int) hr
  exact (Any.slices_Compact_int_empty compI ad cc w).mono fun e w' ⟨h1,h2⟩=>by
   subst h1; subst h2
   exact ⟨Below.refl _ _,_,rfl,fp,⟨_,.inr ⟨rfl,rfl⟩,hr⟩,(fun h=>by cases h),fun b hb=>.inl (hs b hb)⟩
end Go.Proofs.YtcbionahcldlnaaGreat.DW

namespace Go.Proofs.YtcbionahcldlnaaGreat.DW
open Go.RowKit Go.Sort
section
variable {α β:Type} [Inhabited α] (f:α->β)
noncomputable def kpE (d:Array α) (m:Nat):Bool:=@decide (m=0\/f d[m]! ≠ f d[m - 1]!) (Classical.propDecidable _)
noncomputable def cuE (d:Array α):Nat->List α
 | 0=>[]
 | m+1=>cuE d m++(if kpE f d m=true then [d[m]!] else [])
structure CI (d:Array α) (m kk:Nat) (dk:Array α):Prop where
 size:dk.size=d.size
 len:(cuE f d m).length=kk
 lt:kk < m
 low:∀ j,j < kk->(cuE f d m)[j]? = some dk[j]!
 high:∀ j,m - 1<=j->dk[j]! = d[j]!
variable {f}
theorem kpE_t {d:Array α} {m:Nat} (h:m=0\/f d[m]! ≠ f d[m - 1]!):kpE f d m=true:=by
 unfold kpE; exact @decide_eq_true _ (Classical.propDecidable _) h
theorem kpE_f {d:Array α} {m:Nat} (h0:0 < m) (h:f d[m]! = f d[m - 1]!):kpE f d m=false:=by
 unfold kpE; exact @decide_eq_false _ (Classical.propDecidable _) (by rintro (h1|h1); omega; exact h1 h)
theorem cuE_all {d:Array α}:∀ m,m<=d.size->(∀ j,j < m->kpE f d j=true)->cuE f d m=(d.toList.take m)
 | 0,_,_=>rfl
 | m+1,hm,h=>by
  rw [cuE,if_pos (h m (Nat.lt_succ_self m)),cuE_all m (by omega) fun j hj=>h j (by omega)]
  rw [List.take_add_one,Array.getElem?_toList,Array.getElem?_eq_getElem (by omega)]
  rw [getElem!_pos d m (by omega)]; rfl
theorem cuE_len {d:Array α}:∀ m,(cuE f d m).length<=m
 | 0=>Nat.le_refl _
 | m+1=>by
  have:=cuE_len (d:=d) m
  rw [cuE,List.length_append]
  split
  ·rw [List.length_singleton]; omega
  ·rw [List.length_nil]; omega
theorem cuE_mem {d:Array α} {x:α}:∀ m,m<=d.size->x ∈ cuE f d m->x ∈ d
 | 0,_,h=>by cases h
 | m+1,hm,h=>by
  rw [cuE] at h
  rcases List.mem_append.1 h with h|h
  ·exact cuE_mem m (by omega) h
  ·split at h
   ·rw [List.mem_singleton.1 h,getElem!_pos d m (by omega)]; exact Array.getElem_mem _
   ·cases h
theorem CI.start {d:Array α} {k:Nat} (hk:k < d.size) (h0:0 < k) (h:∀ j,j < k->kpE f d j=true) (hn:kpE f d k=false):CI f d (k+1) k d:=by
 have e:cuE f d (k+1)=d.toList.take k:=by
  rw [cuE,if_neg (by rw [hn]; decide),List.append_nil,cuE_all k (by omega) h]
 refine ⟨rfl,by rw [e,List.length_take,Array.length_toList]; omega,Nat.lt_succ_self k,fun j hj=>?_,fun _ _=>rfl⟩
 rw [e,List.getElem?_take,if_pos hj,Array.getElem?_toList,Array.getElem?_eq_getElem (by omega),getElem!_pos d j (by omega)]
theorem CI.skip {d dk:Array α} {m kk:Nat} (h:CI f d m kk dk) (hn:kpE f d m=false):CI f d (m+1) kk dk:=by
 have e:cuE f d (m+1)=cuE f d m:=by rw [cuE,if_neg (by rw [hn]; decide),List.append_nil]
 exact ⟨h.size,by rw [e]; exact h.len,Nat.lt_succ_of_lt h.lt,fun j hj=>by rw [e]; exact h.low j hj,fun j hj=>h.high j (by omega)⟩
theorem CI.keep {d dk:Array α} {m kk:Nat} (h:CI f d m kk dk) (hm:m < d.size) (hn:kpE f d m=true):CI f d (m+1) (kk+1) (dk.setIfInBounds kk d[m]!):=by
 have e:cuE f d (m+1)=cuE f d m++[d[m]!]:=by rw [cuE,if_pos hn]
 have hlt:=h.lt
 have hsz:=h.size
 refine ⟨by rw [Array.size_setIfInBounds]; exact h.size,by rw [e,List.length_append,h.len]; rfl,by omega,fun j hj=>?_,fun j hj=>?_⟩
 ·rw [e]
  by_cases hjk:j=kk
  ·subst hjk
   rw [List.getElem?_append_right (by rw [h.len]; exact Nat.le_refl _),h.len,Nat.sub_self,getElem!_set_same _ _ _ (by omega)]
   rfl
  ·rw [List.getElem?_append_left (by rw [h.len]; omega),getElem!_set_other _ _ _ _ hjk]
   exact h.low j (by omega)
 ·rw [getElem!_set_other _ _ _ _ (by omega)]
  exact h.high j (by omega)
theorem CI.take {d dk:Array α} {m kk:Nat} (h:CI f d m kk dk) (hk:kk<=dk.size):cuE f d m=dk.toList.take kk:=by
 refine List.ext_getElem? fun j=>?_
 by_cases hj:j < kk
 ·rw [h.low j hj,List.getElem?_take,if_pos hj,Array.getElem?_toList,Array.getElem?_eq_getElem (by omega),getElem!_pos dk j (by omega)]
 ·rw [List.getElem?_eq_none (by rw [h.len]; omega),List.getElem?_take,if_neg hj]
end
section
variable {t:Ty} {Pr:t.den->Prop} {w:World} {g:Nat} [Inhabited (Hd t Pr w g)]
theorem setMany_oneH (d:Array (Hd t Pr w g)) {i:Nat} (hi:i < d.size) (x:Hd t Pr w g):setMany (flatK Hd.cs t.rp.size d) (i * t.rp.size) x.cs=flatK Hd.cs t.rp.size (d.setIfInBounds i x):=by
 have hk:=t.pos
 refine ext_get! (by simp) fun j hj=>?_
 have hj':j < d.size * t.rp.size:=by simpa using hj
 have hxl:=x.len
 rw [get_setMany _ _ _ j (by simpa using hj'),get_flatK _ _ _ j hj',get_flatK _ _ _ j (by simpa using hj')]
 have hdm:=Nat.div_add_mod j t.rp.size
 have hm:=Nat.mod_lt j hk
 by_cases h:j / t.rp.size=i
 ·have e1:i * t.rp.size+j % t.rp.size=j:=by rw [<-h,Nat.mul_comm]; exact hdm
  rw [if_pos ⟨by omega,by omega⟩,h,getElem!_set_same d i x hi,show j - i * t.rp.size=j % t.rp.size by omega]
 ·rw [getElem!_set_other d i _ x h,if_neg ?_]
  rintro ⟨h1,h2⟩
  rw [hxl] at h2
  refine h (Nat.div_eq_of_lt_le (by rw [Nat.mul_comm]; rw [Nat.mul_comm] at h1; exact h1) ?_)
  rw [Nat.succ_mul]; exact h2
theorem setMany_clearH (d:Array (Hd t Pr w g)) {kk:Nat} (hk0:kk<=d.size) (z:Hd t Pr w g) (zs:List Value) (hzl:zs.length=(d.size - kk) * t.rp.size) (hz:∀ j,j < zs.length->zs[j]! = z.cs[j % t.rp.size]!) :
  setMany (flatK Hd.cs t.rp.size d) (kk * t.rp.size) zs=flatK Hd.cs t.rp.size (d.toList.take kk++List.replicate (d.size - kk) z).toArray:=by
 have hk:=t.pos
 have hsz:(d.toList.take kk++List.replicate (d.size - kk) z).toArray.size=d.size:=by simp; omega
 refine ext_get! (by rw [size_setMany,size_flatK,size_flatK,hsz]) fun j hj=>?_
 have hj':j < d.size * t.rp.size:=by simpa using hj
 rw [get_setMany _ _ _ j (by simpa using hj'),get_flatK _ _ _ j hj',get_flatK _ _ _ j (by rw [hsz]; exact hj')]
 have hdm:=Nat.div_add_mod j t.rp.size
 have hm:=Nat.mod_lt j hk
 have hq:j / t.rp.size < d.size:=Nat.div_lt_of_lt_mul (by rw [Nat.mul_comm]; exact hj')
 have hsub:kk * t.rp.size+zs.length=d.size * t.rp.size:=by rw [hzl,<-Nat.add_mul]; congr 1; omega
 by_cases h:j / t.rp.size < kk
 ·have h1:j < kk * t.rp.size:=(Nat.div_lt_iff_lt_mul hk).1 h
  rw [if_neg (by omega)]
  have e:(d.toList.take kk++List.replicate (d.size - kk) z).toArray[j / t.rp.size]! = d[j / t.rp.size]!:=by
   rw [getElem!_pos (d.toList.take kk++List.replicate (d.size - kk) z).toArray (j / t.rp.size) (by rw [hsz]; exact hq),List.getElem_toArray,List.getElem_append_left (by rw [List.length_take,Array.length_toList]; omega),List.getElem_take,Array.getElem_toList,getElem!_pos d (j / t.rp.size) hq]
  rw [e]
 ·have h1:kk * t.rp.size<=j:=by
   have:=fun h2=>h ((Nat.div_lt_iff_lt_mul hk).2 h2)
   exact Nat.le_of_not_lt this
  rw [if_pos ⟨h1,by omega⟩,hz _ (by omega)]
  have e:(d.toList.take kk++List.replicate (d.size - kk) z).toArray[j / t.rp.size]! = z:=by
   rw [getElem!_pos (d.toList.take kk++List.replicate (d.size - kk) z).toArray (j / t.rp.size) (by rw [hsz]; exact hq),List.getElem_toArray,List.getElem_append_right (by rw [List.length_take,Array.length_toList]; omega),List.getElem_replicate]
  rw [e]
  have e2:j % t.rp.size=(j - kk * t.rp.size) % t.rp.size:=by
   have h3:=Nat.add_mul_mod_self_right (j - kk * t.rp.size) kk t.rp.size
   rwa [Nat.sub_add_cancel h1] at h3
  rw [e2]
theorem sortW_store {off n i:Nat} {dk:Array (Hd t Pr w g)} {os:Array Obj} (hblk:g < w.heap.size) (hi:i < dk.size) (x:Hd t Pr w g):(sortWorldK Hd.cs t.rp.size w g off n dk os).setCells g (off+i * t.rp.size) x.cs=sortWorldK Hd.cs t.rp.size w g off n (dk.setIfInBounds i x) os:=by
 unfold sortWorldK
 rw [setCells_grow os g _ _ _ (by show g < (putRowK Hd.cs t.rp.size _ g off dk).heap.size; rw [size_putRowK]; exact hblk)]
 unfold putRowK
 have hb:(i+1) * t.rp.size<=dk.size * t.rp.size:=Nat.mul_le_mul_right _ hi
 rw [Nat.succ_mul] at hb
 rw [setCells_putRow (Sort.ahead w n) g off x.cs (i * t.rp.size) _ (by rw [size_flatK,x.len]; exact hb),setMany_oneH dk hi x]
theorem sortW_clear {off n kk:Nat} {dk:Array (Hd t Pr w g)} {os:Array Obj} (hblk:g < w.heap.size) (hk0:kk<=dk.size) (z:Hd t Pr w g) (zs:List Value) (hzl:zs.length=(dk.size - kk) * t.rp.size) (hz:∀ j,j < zs.length->zs[j]! = z.cs[j % t.rp.size]!) :
  (sortWorldK Hd.cs t.rp.size w g off n dk os).setCells g (off+kk * t.rp.size) zs=sortWorldK Hd.cs t.rp.size w g off n (dk.toList.take kk++List.replicate (dk.size - kk) z).toArray os:=by
 unfold sortWorldK
 rw [setCells_grow os g _ _ _ (by show g < (putRowK Hd.cs t.rp.size _ g off dk).heap.size; rw [size_putRowK]; exact hblk)]
 unfold putRowK
 rw [setCells_putRow (Sort.ahead w n) g off zs (kk * t.rp.size) _ (by rw [size_flatK,hzl,<-Nat.add_mul]; exact Nat.mul_le_mul_right _ (by omega)),setMany_clearH dk hk0 z zs hzl hz]
theorem sortW_belowO (off n:Nat) (d:Array (Hd t Pr w g)) (os:Array Obj):BelowX (fun x=>x=g) w.heap.size w (sortWorldK Hd.cs t.rp.size w g off n d os):=by
 refine ⟨rfl,rfl,rfl,?_,fun k hk hne=>?_⟩
 ·rw [sortWorldK,size_grow]
  have:(putRowK Hd.cs t.rp.size (Sort.ahead w n) g off d).heap.size=w.heap.size:=by unfold putRowK; rw [size_putRow]; rfl
  omega
 ·have hkg:¬ g=k:=fun h=>hne h.symm
  unfold sortWorldK putRowK putRow mapBlock grow
  simp only [heap_ahead]
  rw [Array.getElem?_append_left (by rw [Array.size_modify]; exact hk),Array.getElem?_modify,if_neg hkg]
theorem Fn.eqv {P:Program} {f:FuncId} {x y:t.den} {b:Bool} (hag:t.isAgg=true) (h:Fn P f [⟨t,x⟩,⟨t,y⟩] false [⟨.bool,b⟩]) {W:World} {cs ds:List Value} {f1 f2:List Nat} (hG:Gw P W) (h1:t.rp.rep W cs x f1) (h2:t.rp.rep W ds y f2) :
  Calls P f #[.agg cs.toArray,.agg ds.toArray] W fun e w'=>e=.returned (.bool b)/\∃ q os',w'=grow (W.drewN q) os':=by
 have hc:=h.2 W [.agg cs.toArray,.agg ds.toArray] (fun _=>True) hG ⟨⟨f1,⟨cs,.inl ⟨hag,rfl⟩,h1⟩,fun _ _=>trivial⟩,⟨f2,⟨ds,.inl ⟨hag,rfl⟩,h2⟩,fun _ _=>trivial⟩,trivial⟩
 have hc2:Calls P f #[.agg cs.toArray,.agg ds.toArray] W fun e w'=>e=.returned (.bool b)/\Below W.heap.size W w':=hc.mono fun e w' ⟨hb,v,he,fp,⟨us,hp,hr⟩,_⟩=>by
  refine ⟨?_,hb⟩
  rcases hp with ⟨h,_⟩|⟨_,rfl⟩
  ·cases h
  ·rw [he,List.cons.inj hr.1 |>.1]
 exact (Drn.calls_mono hc2 fun e w' h=>by rw [h.1]; exact fun h=>by cases h).mono fun e w' ⟨⟨h1,h2⟩,h3⟩=>⟨h1,grown_of h2 h3⟩
end
end Go.Proofs.YtcbionahcldlnaaGreat.DW

namespace Go.Proofs.YtcbionahcldlnaaGreat.DW
open Go.RowKit Go.Sort Go.Lib
abbrev HQ (w:World) (g:Nat):=Hd tRat gF w g
def zQ (w:World) (g:Nat):HQ w g:=⟨[.bool false,.slice none 0 0,.slice none 0 0],((false,[]),[]),[],by
 refine ⟨[.bool false,.slice none 0 0],[.slice none 0 0],[],[],rfl,rfl,⟨[.bool false],[.slice none 0 0],[],[],rfl,rfl,⟨rfl,rfl⟩,?_⟩,?_⟩
 ·exact ⟨none,0,rfl,Nat.le_refl _,Nat.zero_le _,.inl ⟨rfl,rfl⟩⟩
 ·exact ⟨none,0,rfl,Nat.le_refl _,Nat.zero_le _,.inl ⟨rfl,rfl⟩⟩,(fun h=>by cases h),gF_oD okO_none⟩
def zL (n:Nat):List Value:=(List.range (n * 3)).map fun i=>(#[Value.bool false,.slice none 0 0,.slice none 0 0])[i % 3]!
theorem zL_len (n:Nat):(zL n).length=n * 3:=by simp [zL]
theorem zL_at (w:World) (g n j:Nat) (h:j < (zL n).length):(zL n)[j]! = (zQ w g).cs[j % 3]!:=by
 rw [getElem!_pos (zL n) j h]
 simp only [zL,List.getElem_map,List.getElem_range]
 have:j % 3=0\/j % 3=1\/j % 3=2:=by omega
 rcases this with h|h|h<;>rw [h]<;>rfl
theorem run_clear_rat (w:World) (ty:TypeId) (b o n c:Nat) (hn:0 < n)
  (hc:∀ j,j < n * 3->(w.cell? ⟨b,o+j,none⟩).isSome=true) (hf:∀ j,j < n * 3->w.frozen? ⟨b,o+j,none⟩=false) :
  (Builtin.clear_ #[84] ty #[.slice (some ⟨b,o,none⟩) n c]).run Tryz.prog w=.ok (.tuple #[]) (w.setCells b o (zL n)):=by
 have hzc:(Builtin.zeroCells (Value.agg #[.bool false,.slice none 0 0,.slice none 0 0]).cells n).toList=zL n:=by
  simp [Builtin.zeroCells,zL,Value.cells]
 have hst:=run_storeCells_cells (P:=Tryz.prog) b o (zL n) 0 w (by rw [zL_len]; simpa using hc) (by rw [zL_len]; simpa using hf) (by
  intro v hv
  obtain ⟨i,_,rfl⟩:=List.mem_map.1 hv
  have:i % 3=0\/i % 3=1\/i % 3=2:=by omega
  rcases this with h|h|h<;>rw [h]<;>rfl)
 simp only [Nat.add_zero] at hst
 obtain ⟨m,rfl⟩:∃ m,n=m+1:=⟨n - 1,by omega⟩
 have hz:=Tryz.zeroValue90
 have hu:=Tryz.underlying84
 simp [Builtin.clear_,run_underlying hu,hz,hzc,hst]
theorem list3' {l:List Value} (h:l.length=3):∃ a b c,l=[a,b,c]:=by
 match l,h with
 | [a,b,c],_=>exact ⟨a,b,c,rfl⟩
set_option maxHeartbeats 8000000 in
theorem compactQ_any (blk off cap:Nat) (w:World) (hblk:blk < w.heap.size) [Inhabited (HQ w blk)] (d:Array (HQ w blk)) (hH:HoldsK Hd.cs 3 w blk off d) (hsz:d.size<=9223372036854775807) (hcap:d.size<=cap) (hG:Gw Tryz.prog w) (hne:∀ g',Tryz.prog.globalNamed tabName=some g'->blk ≠ g') :
  Calls Tryz.prog 139 #[.slice (some ⟨blk,off,none⟩) d.size cap,.func (.func 112) #[] #[]] w fun e w'=>e=.returned (.slice (some ⟨blk,off,none⟩) (cuE Hd.x d d.size).length cap)/\∃ q os,w'=sortWorldK Hd.cs 3 w blk off q (cuE Hd.x d d.size++List.replicate (d.size - (cuE Hd.x d d.size).length) (zQ w blk)).toArray os:=by
 have mixed:Tryz.prog.follows .mixedOrders=true:=mixes
 have heq:∀ q (dk:Array (HQ w blk)) os (x y:HQ w blk),Calls Tryz.prog 112 #[.agg x.cs.toArray,.agg y.cs.toArray] (sortWorldK Hd.cs 3 w blk off q dk os) fun e w'=>e=.returned (.bool (eqb x.x y.x))/\∃ q' os',w'=grow ((sortWorldK Hd.cs 3 w blk off q dk os).drewN q') os':=fun q dk os x y=>by
  have hbx:=sortW_belowO (t:=tRat) (Pr:=gF) (w:=w) (g:=blk) off q dk os
  exact Fn.eqv rfl (RatEqual_fn x.x y.x) (hG.upX hbx fun g' h=>⟨(hG g' h).1,fun e=>hne g' h e.symm⟩) (x.keep hbx) (y.keep hbx)
 have w0:w=sortWorldK Hd.cs 3 w blk off 0 d #[]:=by unfold sortWorldK; rw [grow_empty]; exact (putRowK_self Hd.cs 3 w blk off d hH).symm
 have same:∀ q os,(∀ j,j < d.size->kpE Hd.x d j=true)->(cuE Hd.x d d.size).length=d.size/\sortWorldK Hd.cs 3 w blk off q d os=sortWorldK Hd.cs 3 w blk off q (cuE Hd.x d d.size++List.replicate (d.size - (cuE Hd.x d d.size).length) (zQ w blk)).toArray os:=by
  intro q os hall
  have e:cuE Hd.x d d.size=d.toList:=by rw [cuE_all _ (Nat.le_refl _) hall,List.take_of_length_le (by simp)]
  rw [e]
  refine ⟨by simp,?_⟩
  simp only [Array.length_toList,Nat.sub_self,List.replicate_zero,List.append_nil,Array.toArray_toList]
 have HS:Aside (∀ q os,(∀ j,j < d.size->kpE Hd.x d j=true)->(cuE Hd.x d d.size).length=d.size/\sortWorldK Hd.cs 3 w blk off q d os=sortWorldK Hd.cs 3 w blk off q (cuE Hd.x d d.size++List.replicate (d.size - (cuE Hd.x d d.size).length) (zQ w blk)).toArray os):=same
 have HE:Aside (∀ q (dk:Array (HQ w blk)) os (x y:HQ w blk),Calls Tryz.prog 112 #[.agg x.cs.toArray,.agg y.cs.toArray] (sortWorldK Hd.cs 3 w blk off q dk os) fun e w'=>e=.returned (.bool (eqb x.x y.x))/\∃ q' os',w'=grow ((sortWorldK Hd.cs 3 w blk off q dk os).drewN q') os'):=heq
 have HH:Aside (HoldsK Hd.cs 3 w blk off d):=hH
 have HW:Aside (w=sortWorldK Hd.cs 3 w blk off 0 d #[]):=w0
 clear same heq hH w0 hG hne
 by_cases h2:d.size < 2
 ·go_enter Tryz.func139,Tryz.ntmps139
  go_wp2
  go_ret
  obtain ⟨e1,e2⟩:=HS.out 0 #[] (fun j hj=>kpE_t (.inl (by omega)))
  exact ⟨by rw [e1]; rfl,0,#[],HW.out.trans e2⟩
 ·go_enter Tryz.func139,Tryz.ntmps139
  go_wp2
  go_loopg [5] d.size (fun g s5 wr=>∃ (k q:Nat) (os:Array Obj),1<=k/\k<=d.size/\d.size - k<=g/\s5=.int .i64 k/\wr=sortWorldK Hd.cs 3 w blk off q d os/\Hid (∀ j,j < k->kpE Hd.x d j=true))
  case atStart=>exact ⟨1,0,#[],Nat.le_refl _,by omega,by omega,rfl,HW.out,fun j hj=>kpE_t (.inl (by omega))⟩
  case round =>
   obtain ⟨k,q,os,hk1,hk,hg,rfl,rfl,hall⟩:=hrel
   by_cases hlt:k < d.size
   ·obtain ⟨kp,rfl⟩:∃ kp,k=kp+1:=⟨k - 1,by omega⟩
    obtain ⟨x,hx⟩:∃ x,d[kp+1]! = x:=⟨_,rfl⟩
    obtain ⟨y,hy⟩:∃ y,d[kp]! = y:=⟨_,rfl⟩
    have hwp:IntKind.i64.wrap (kp:Int)=(kp:Int):=by rw [IntKind.wrap_i64]; omega
    have jz:(kp:Int)+1 < (d.size:Int):=by omega
    have jz1:(kp:Int) < (d.size:Int):=by omega
    have p0:(0:Int)<=(kp:Int)+1:=by omega
    have e0:((kp:Int)+1).toNat=kp+1:=by omega
    have hcls:∀ n' os',grow ((sortWorldK Hd.cs 3 w blk off q d os).drewN n') os'=sortWorldK Hd.cs 3 w blk off (q+n') d (os++os'):=fun n' os'=>sortWorldK_grown_c Hd.cs 3 w blk off q n' d os os'
    have hHc:∀ n' os',HoldsK Hd.cs 3 (grow ((sortWorldK Hd.cs 3 w blk off q d os).drewN n') os') blk off d:=fun n' os'=>by rw [hcls]; exact holdsK_sortWorldK_c Hd.cs 3 w blk off d d _ _ HH.out hblk rfl
    have hcg:∀ n' os',Calls Tryz.prog 112 #[.agg x.cs.toArray,.agg y.cs.toArray] (grow ((sortWorldK Hd.cs 3 w blk off q d os).drewN n') os') fun e w'=>e=.returned (.bool (eqb x.x y.x))/\∃ q' os'',w'=grow ((grow ((sortWorldK Hd.cs 3 w blk off q d os).drewN n') os').drewN q') os'':=fun n' os'=>by
     rw [hcls]; exact HE.out _ d _ x y
    obtain ⟨a0,a1,a2,ha⟩:=list3' x.len
    obtain ⟨b0,b1,b2,hb⟩:=list3' y.len
    have cx:∀ n' os' c,c < 3->(grow ((sortWorldK Hd.cs 3 w blk off q d os).drewN n') os').cell? ⟨blk,off+(kp+1) * 3+c,none⟩=some (x.cs[c]!):=fun n' os' c hc=>by
     rw [<-hx]; exact ((hHc n' os').cell hlt hc).1
    have cy:∀ n' os' c,c < 3->(grow ((sortWorldK Hd.cs 3 w blk off q d os).drewN n') os').cell? ⟨blk,off+kp * 3+c,none⟩=some (y.cs[c]!):=fun n' os' c hc=>by
     rw [<-hy]; exact ((hHc n' os').cell (by omega) hc).1
    rw [ha] at cx hcg
    rw [hb] at cy hcg
    have x0:=fun n' os'=>cx n' os' 0 (by decide)
    have x1:=fun n' os'=>cx n' os' 1 (by decide)
    have x2:=fun n' os'=>cx n' os' 2 (by decide)
    have y0:=fun n' os'=>cy n' os' 0 (by decide)
    have y1:=fun n' os'=>cy n' os' 1 (by decide)
    have y2:=fun n' os'=>cy n' os' 2 (by decide)
    simp only [Nat.add_zero,show [a0,a1,a2][0]! = a0 from rfl,show [a0,a1,a2][1]! = a1 from rfl,show [a0,a1,a2][2]! = a2 from rfl] at x0 x1 x2
    simp only [Nat.add_zero,show [b0,b1,b2][0]! = b0 from rfl,show [b0,b1,b2][1]! = b1 from rfl,show [b0,b1,b2][2]! = b2 from rfl] at y0 y1 y2
    have CLS:Hid (∀ n' os',grow ((sortWorldK Hd.cs 3 w blk off q d os).drewN n') os'=sortWorldK Hd.cs 3 w blk off (q+n') d (os++os')):=hcls
    clear hcls hHc cx cy
    have XY:Hid (d[kp+1]! = x/\d[kp]! = y):=⟨hx,hy⟩
    clear hx hy ha hb
    generalize hwq:sortWorldK Hd.cs 3 w blk off q d os=wq at hcg CLS x0 x1 x2 y0 y1 y2 ⊢
    by_cases hdup:x.x=y.x
    ·rw [eqb_true hdup] at hcg
     go_wp2_with fail
     go_quiet_grown (first|(go_at_call 112; refine Calls.grown_of (hcg _ _)))
     have hw2:grow (wq.drewN nq) osq=sortWorldK Hd.cs 3 w blk off (q+nq) d (os++osq):=CLS.out nq osq
     clear x0 x1 x2 y0 y1 y2 hcg CLS hwq
     simp only
     generalize grow (wq.drewN nq) osq=wq2 at hw2 ⊢
     have HW2:Hid (wq2=sortWorldK Hd.cs 3 w blk off (q+nq) d (os++osq)):=hw2
     clear hw2
     go_wp2_with fail
     go_loopg [5,7] d.size (fun g s5 s7 wr=>∃ (kk k2 q2:Nat) (dk:Array (HQ w blk)) (os2:Array Obj),s5=.int .i64 kk/\s7=.int .i64 k2/\1<=k2/\kp+1+k2<=d.size/\d.size - (kp+1+k2)<=g/\wr=sortWorldK Hd.cs 3 w blk off q2 dk os2/\Hid (CI Hd.x d (kp+1+k2) kk dk))
     case atStart=>exact ⟨kp+1,1,q+nq,d,os++osq,by go_num,rfl,Nat.le_refl _,by omega,by omega,HW2.out,CI.start hlt (by omega) hall.out (kpE_f (by omega) (by rw [XY.out.1,Nat.add_sub_cancel,XY.out.2]; exact hdup))⟩
     case round =>
      obtain ⟨kk,k2,q2,dk,os2,rfl,rfl,hk2,hle,hg2,rfl,hI⟩:=hrel
      by_cases hlt2:kp+1+k2 < d.size
      ·obtain ⟨k2p,rfl⟩:∃ k2p,k2=k2p+1:=⟨k2 - 1,by omega⟩
       have hds:=hI.out.size
       have hkk:=hI.out.lt
       obtain ⟨u,hu⟩:∃ u,d[kp+1+(k2p+1)]! = u:=⟨_,rfl⟩
       obtain ⟨v,hv⟩:∃ v,d[kp+1+k2p]! = v:=⟨_,rfl⟩
       have hwp2:IntKind.i64.wrap (k2p:Int)=(k2p:Int):=by rw [IntKind.wrap_i64]; omega
       have hsub:((d.size - (kp+1):Nat):Int)=(d.size:Int) - ((kp:Int)+1):=by omega
       have kz:(k2p:Int)+1 < ((d.size - (kp+1):Nat):Int):=by omega
       have kz1:(k2p:Int) < ((d.size - (kp+1):Nat):Int):=by omega
       have kz2:k2p < d.size - (kp+1):=by omega
       have kz3:(k2p:Int) < (d.size:Int) - ((kp:Int)+1):=by omega
       have kz4:(k2p:Int)+1 < (d.size:Int) - ((kp:Int)+1):=by omega
       have r0:(0:Int)<=(k2p:Int)+1:=by omega
       have t0:((k2p:Int)+1).toNat=k2p+1:=by omega
       have hcls:∀ n' os',grow ((sortWorldK Hd.cs 3 w blk off q2 dk os2).drewN n') os'=sortWorldK Hd.cs 3 w blk off (q2+n') dk (os2++os'):=fun n' os'=>sortWorldK_grown_c Hd.cs 3 w blk off q2 n' dk os2 os'
       have hHc:∀ n' os',HoldsK Hd.cs 3 (grow ((sortWorldK Hd.cs 3 w blk off q2 dk os2).drewN n') os') blk off dk:=fun n' os'=>by rw [hcls]; exact holdsK_sortWorldK_c Hd.cs 3 w blk off d dk _ _ HH.out hblk hds
       have hcg:∀ n' os',Calls Tryz.prog 112 #[.agg u.cs.toArray,.agg v.cs.toArray] (grow ((sortWorldK Hd.cs 3 w blk off q2 dk os2).drewN n') os') fun e w'=>e=.returned (.bool (eqb u.x v.x))/\∃ q' os'',w'=grow ((grow ((sortWorldK Hd.cs 3 w blk off q2 dk os2).drewN n') os').drewN q') os'':=fun n' os'=>by
        rw [hcls]; exact HE.out _ dk _ u v
       obtain ⟨a0,a1,a2,ha⟩:=list3' u.len
       obtain ⟨b0,b1,b2,hb⟩:=list3' v.len
       have du:dk[kp+1+(k2p+1)]! = u:=(hI.out.high _ (by omega)).trans hu
       have dv:dk[kp+1+k2p]! = v:=(hI.out.high _ (by omega)).trans hv
       have cx:∀ n' os' c,c < 3->(grow ((sortWorldK Hd.cs 3 w blk off q2 dk os2).drewN n') os').cell? ⟨blk,off+(kp+1) * 3+(k2p+1) * 3+c,none⟩=some (u.cs[c]!):=fun n' os' c hc=>by
        have:=((hHc n' os').cell (i:=kp+1+(k2p+1)) (by omega) hc).1
        rwa [du,show off+(kp+1+(k2p+1)) * 3+c=off+(kp+1) * 3+(k2p+1) * 3+c by omega] at this
       have cy:∀ n' os' c,c < 3->(grow ((sortWorldK Hd.cs 3 w blk off q2 dk os2).drewN n') os').cell? ⟨blk,off+(kp+1) * 3+k2p * 3+c,none⟩=some (v.cs[c]!):=fun n' os' c hc=>by
        have:=((hHc n' os').cell (i:=kp+1+k2p) (by omega) hc).1
        rwa [dv,show off+(kp+1+k2p) * 3+c=off+(kp+1) * 3+k2p * 3+c by omega] at this
       rw [ha] at cx hcg
       rw [hb] at cy hcg
       have x0:=fun n' os'=>cx n' os' 0 (by decide)
       have x1:=fun n' os'=>cx n' os' 1 (by decide)
       have x2:=fun n' os'=>cx n' os' 2 (by decide)
       have y0:=fun n' os'=>cy n' os' 0 (by decide)
       have y1:=fun n' os'=>cy n' os' 1 (by decide)
       have y2:=fun n' os'=>cy n' os' 2 (by decide)
       simp only [Nat.add_zero,show [a0,a1,a2][0]! = a0 from rfl,show [a0,a1,a2][1]! = a1 from rfl,show [a0,a1,a2][2]! = a2 from rfl] at x0 x1 x2
       simp only [Nat.add_zero,show [b0,b1,b2][0]! = b0 from rfl,show [b0,b1,b2][1]! = b1 from rfl,show [b0,b1,b2][2]! = b2 from rfl] at y0 y1 y2
       have CLS:Hid (∀ n' os',grow ((sortWorldK Hd.cs 3 w blk off q2 dk os2).drewN n') os'=sortWorldK Hd.cs 3 w blk off (q2+n') dk (os2++os')):=hcls
       have UV:Hid (d[kp+1+(k2p+1)]! = u/\d[kp+1+k2p]! = v/\u.cs=[a0,a1,a2]):=⟨hu,hv,ha⟩
       clear hcls hHc cx cy hu hv hb du dv ha
       generalize hwq3:sortWorldK Hd.cs 3 w blk off q2 dk os2=wq at hcg CLS x0 x1 x2 y0 y1 y2 ⊢
       by_cases hdup2:u.x=v.x
       ·rw [eqb_true hdup2] at hcg
        go_wp2_with fail
        go_quiet_grown (first|(go_at_call 112; refine Calls.grown_of (hcg _ _)))
        go_wp2
        go_roundg (d.size - (kp+1+(k2p+1+1)))
        case measure=>omega
        case rel=>exact ⟨kk,k2p+1+1,q2+nq,dk,os2++osq,rfl,by go_num,by omega,by omega,Nat.le_refl _,CLS.out nq osq,hI.out.skip (kpE_f (by omega) (by rw [UV.out.1,show kp+1+(k2p+1) - 1=kp+1+k2p by omega,UV.out.2.1]; exact hdup2))⟩
       ·rw [eqb_false hdup2] at hcg
        go_wp2_with fail
        go_quiet_grown (first|(go_at_call 112; refine Calls.grown_of (hcg _ _)))
        have hw3:grow (wq.drewN nq) osq=sortWorldK Hd.cs 3 w blk off (q2+nq) dk (os2++osq):=CLS.out nq osq
        have hHd:HoldsK Hd.cs 3 (grow (wq.drewN nq) osq) blk off dk:=by rw [hw3]; exact holdsK_sortWorldK_c Hd.cs 3 w blk off d dk _ _ HH.out hblk hds
        have l0:=x0 nq osq
        have l1:=x1 nq osq
        have l2:=x2 nq osq
        obtain ⟨s0,f0⟩:=hHd.cell (i:=kk) (by omega) (c:=0) (by decide)
        obtain ⟨s1,f1⟩:=hHd.cell (i:=kk) (by omega) (c:=1) (by decide)
        obtain ⟨s2,f2⟩:=hHd.cell (i:=kk) (by omega) (c:=2) (by decide)
        rw [Nat.add_zero] at s0 f0
        have kkz:(kk:Int) < (d.size:Int):=by omega
        have v0:a0.oneCell'=true:=u.one a0 (by rw [UV.out.2.2]; simp)
        have v1:a1.oneCell'=true:=u.one a1 (by rw [UV.out.2.2]; simp)
        have v2:a2.oneCell'=true:=u.one a2 (by rw [UV.out.2.2]; simp)
        clear x0 x1 x2 y0 y1 y2 hcg CLS hwq3 hHd
        simp only
        generalize grow (wq.drewN nq) osq=wq3 at hw3 l0 l1 l2 s0 s1 s2 f0 f1 f2 ⊢
        have HW3:Hid (wq3=sortWorldK Hd.cs 3 w blk off (q2+nq) dk (os2++osq)):=hw3
        clear hw3
        generalize (Hd.cs dk[kk]!)[0]! = o0 at s0
        generalize (Hd.cs dk[kk]!)[1]! = o1 at s1
        generalize (Hd.cs dk[kk]!)[2]! = o2 at s2
        go_wp2
        go_roundg (d.size - (kp+1+(k2p+1+1)))
        case measure=>omega
        case rel =>
         refine ⟨kk+1,k2p+1+1,q2+nq,dk.setIfInBounds kk u,os2++osq,by go_num,by go_num,by omega,by omega,Nat.le_refl _,?_,?_⟩
         ·show wq3.setCells blk (off+kk * 3) [a0,a1,a2]=_
          rw [<-UV.out.2.2,HW3.out]
          exact sortW_store (t:=tRat) hblk (by omega) u
         ·have:=hI.out.keep hlt2 (kpE_t (.inr (by rw [UV.out.1,show kp+1+(k2p+1) - 1=kp+1+k2p by omega,UV.out.2.1]; exact hdup2)))
          rwa [UV.out.1] at this
      ·have hend:kp+1+k2=d.size:=by omega
       have hds:=hI.out.size
       have hkk:=hI.out.lt
       have hHk:HoldsK Hd.cs 3 (sortWorldK Hd.cs 3 w blk off q2 dk os2) blk off dk:=holdsK_sortWorldK_c Hd.cs 3 w blk off d dk _ _ HH.out hblk hds
       have hsl:=sortW_clear (t:=tRat) (Pr:=gF) (w:=w) (g:=blk) (off:=off) (n:=q2) (dk:=dk) (os:=os2) hblk (kk:=kk) (by omega) (zQ w blk) (zL (d.size - kk)) (by rw [zL_len,hds]; rfl) (fun j hj=>zL_at w blk _ j hj)
       have hsl':(sortWorldK Hd.cs 3 w blk off q2 dk os2).setCells blk (off+kk * 3) (zL (d.size - kk))=sortWorldK Hd.cs 3 w blk off q2 (dk.toList.take kk++List.replicate (dk.size - kk) (zQ w blk)).toArray os2:=hsl
       clear hsl
       have HSL:Hid _:=hsl'
       clear hsl'
       generalize hwq3:sortWorldK Hd.cs 3 w blk off q2 dk os2=wq at hHk HSL ⊢
       have hcl:∀ ty,(Builtin.clear_ #[84] ty #[.slice (some ⟨blk,off+kk * 3,none⟩) (d.size - kk) (cap - kk)]).run Tryz.prog wq=.ok (.tuple #[]) (wq.setCells blk (off+kk * 3) (zL (d.size - kk))) :=
        fun ty=>run_clear_rat wq ty blk (off+kk * 3) _ _ (by omega) (fun j hj=>by
         have h:=(hHk (kk * 3+j) (by simp [hds]; omega)).1
         rw [show off+kk * 3+j=off+(kk * 3+j) by omega,h]; rfl) (fun j hj=>by
         have h:=(hHk (kk * 3+j) (by simp [hds]; omega)).2
         rw [show off+kk * 3+j=off+(kk * 3+j) by omega]; exact h)
       have k2z:¬ (k2:Int) < ((d.size - (kp+1):Nat):Int):=by omega
       have k2z2:¬ k2 < d.size - (kp+1):=by omega
       have k2z3:¬ (k2:Int) < (d.size:Int) - ((kp:Int)+1):=by omega
       have kkz:(kk:Int)<=(d.size:Int):=by omega
       clear hHk hwq3
       go_wp2
       go_ret
       have ht:=hI.out.take (by omega)
       rw [hend] at ht
       refine ⟨by rw [ht,List.length_take,Array.length_toList,Nat.min_eq_left (by omega)]; rfl,q2,os2,?_⟩
       rw [ht,List.length_take,Array.length_toList,Nat.min_eq_left (by omega),<-hds]
       rw [<-hds] at HSL
       exact HSL.out
    ·rw [eqb_false hdup] at hcg
     go_wp2_with fail
     go_quiet_grown (first|(go_at_call 112; refine Calls.grown_of (hcg _ _)))
     go_wp2
     go_roundg (d.size - (kp+1+1))
     case measure=>omega
     case rel =>
      refine ⟨kp+1+1,q+nq,os++osq,by omega,by omega,Nat.le_refl _,by go_num,CLS.out nq osq,fun j hj=>?_⟩
      by_cases e:j=kp+1
      ·subst e
       exact kpE_t (.inr (by rw [XY.out.1,Nat.add_sub_cancel,XY.out.2]; exact hdup))
      ·exact hall.out j (by omega)
   ·have:k=d.size:=by omega
    subst this
    go_wp2
    go_ret
    obtain ⟨e1,e2⟩:=HS.out q os hall.out
    exact ⟨by rw [e1]; rfl,q,os,e2⟩
end Go.Proofs.YtcbionahcldlnaaGreat.DW

namespace Go.Proofs.YtcbionahcldlnaaGreat.DW
open Go.RowKit Go.Shelf
def sortQ_ren:Go.Shelf.Ren:=⟨fun|6=>138|14=>179|15=>108|20=>213|21=>214|22=>215|23=>216|24=>217|25=>218|26=>219|27=>220|28=>157|29=>158|46=>242|47=>190|48=>191|49=>243|50=>244|57=>254|n=>n,fun|0=>0|3=>3|4=>4|5=>5|9=>9|22=>84|23=>185|24=>90|25=>134|39=>114|45=>196|46=>197|47=>249|50=>202|53=>205|55=>207|66=>231|70=>235|76=>261|77=>193|n=>n,fun n=>n⟩
theorem sortQ:SlLaysF0.n6 Tryz.prog sortQ_ren where
 mixed:=by kernel_rfl
 f6:=⟨"slices.SortFunc[[]loop.example/g00811/impl.Rat,loop.example/g00811/impl.Rat]",by decide,Tryz.func138.trans (congrArg some (by kernel_rfl))⟩
 f14:=⟨"slices.pdqsortCmpFunc[loop.example/g00811/impl.Rat]",by decide,Tryz.func179.trans (congrArg some (by kernel_rfl))⟩
 f15:=Tryz.func108.trans (congrArg some (by kernel_rfl))
 f20:=⟨"slices.insertionSortCmpFunc[loop.example/g00811/impl.Rat]",by decide,Tryz.func213.trans (congrArg some (by kernel_rfl))⟩
 f21:=⟨"slices.heapSortCmpFunc[loop.example/g00811/impl.Rat]",by decide,Tryz.func214.trans (congrArg some (by kernel_rfl))⟩
 f22:=⟨"slices.breakPatternsCmpFunc[loop.example/g00811/impl.Rat]",by decide,Tryz.func215.trans (congrArg some (by kernel_rfl))⟩
 f23:=⟨"slices.choosePivotCmpFunc[loop.example/g00811/impl.Rat]",by decide,Tryz.func216.trans (congrArg some (by kernel_rfl))⟩
 f24:=⟨"slices.reverseRangeCmpFunc[loop.example/g00811/impl.Rat]",by decide,Tryz.func217.trans (congrArg some (by kernel_rfl))⟩
 f25:=⟨"slices.partialInsertionSortCmpFunc[loop.example/g00811/impl.Rat]",by decide,Tryz.func218.trans (congrArg some (by kernel_rfl))⟩
 f26:=⟨"slices.partitionEqualCmpFunc[loop.example/g00811/impl.Rat]",by decide,Tryz.func219.trans (congrArg some (by kernel_rfl))⟩
 f27:=⟨"slices.partitionCmpFunc[loop.example/g00811/impl.Rat]",by decide,Tryz.func220.trans (congrArg some (by kernel_rfl))⟩
 f28:=Tryz.func157.trans (congrArg some (by kernel_rfl))
 f29:=Tryz.func158.trans (congrArg some (by kernel_rfl))
 f46:=⟨"slices.siftDownCmpFunc[loop.example/g00811/impl.Rat]",by decide,Tryz.func242.trans (congrArg some (by kernel_rfl))⟩
 f47:=Tryz.func190.trans (congrArg some (by kernel_rfl))
 f48:=Tryz.func191.trans (congrArg some (by kernel_rfl))
 f49:=⟨"slices.medianAdjacentCmpFunc[loop.example/g00811/impl.Rat]",by decide,Tryz.func243.trans (congrArg some (by kernel_rfl))⟩
 f50:=⟨"slices.medianCmpFunc[loop.example/g00811/impl.Rat]",by decide,Tryz.func244.trans (congrArg some (by kernel_rfl))⟩
 f57:=⟨"slices.order2CmpFunc[loop.example/g00811/impl.Rat]",by decide,Tryz.func254.trans (congrArg some (by kernel_rfl))⟩
 t0:=Tryz.underlying0
 a0:=Tryz.isAgg0
 z0:=Tryz.sizeOf0
 v0:=Tryz.zeroValue0
 t3:=Tryz.underlying3
 a3:=Tryz.isAgg3
 z3:=Tryz.sizeOf3
 v3:=Tryz.zeroValue3
 t4:=Tryz.underlying4
 a4:=Tryz.isAgg4
 z4:=Tryz.sizeOf4
 v4:=Tryz.zeroValue4
 t5:=Tryz.underlying5
 a5:=Tryz.isAgg5
 z5:=Tryz.sizeOf5
 v5:=Tryz.zeroValue5
 t9:=Tryz.underlying9
 a9:=Tryz.isAgg9
 z9:=Tryz.sizeOf9
 v9:=Tryz.zeroValue9
 t22:=Tryz.underlying84
 a22:=Tryz.isAgg84
 z22:=Tryz.sizeOf84
 v22:=Tryz.zeroValue84
 t25:=Tryz.underlying134
 a25:=Tryz.isAgg134
 z25:=Tryz.sizeOf134
 v25:=Tryz.zeroValue134
 t39:=Tryz.underlying114
 a39:=Tryz.isAgg114
 z39:=Tryz.sizeOf114
 v39:=Tryz.zeroValue114
 t45:=Tryz.underlying196
 a45:=Tryz.isAgg196
 z45:=Tryz.sizeOf196
 v45:=Tryz.zeroValue196
 t46:=Tryz.underlying197
 a46:=Tryz.isAgg197
 z46:=Tryz.sizeOf197
 v46:=Tryz.zeroValue197
 t50:=Tryz.underlying202
 a50:=Tryz.isAgg202
 z50:=Tryz.sizeOf202
 v50:=Tryz.zeroValue202
 t53:=Tryz.underlying205
 a53:=Tryz.isAgg205
 z53:=Tryz.sizeOf205
 v53:=Tryz.zeroValue205
 t55:=Tryz.underlying207
 a55:=Tryz.isAgg207
 z55:=Tryz.sizeOf207
 v55:=Tryz.zeroValue207
 t66:=Tryz.underlying231
 a66:=Tryz.isAgg231
 z66:=Tryz.sizeOf231
 v66:=Tryz.zeroValue231
 t70:=Tryz.underlying235
 a70:=Tryz.isAgg235
 z70:=Tryz.sizeOf235
 v70:=Tryz.zeroValue235
 t76:=Tryz.underlying261
 a76:=Tryz.isAgg261
 z76:=Tryz.sizeOf261
 v76:=Tryz.zeroValue261
 t77:=Tryz.underlying193
 a77:=Tryz.isAgg193
 z77:=Tryz.sizeOf193
 v77:=Tryz.zeroValue193
theorem cmpQ_ge {p q:Rat}:0<=cmpQ p q ↔ q<=p:=by
 unfold cmpQ
 split
 ·rename_i h; exact ⟨fun h=>absurd h (by decide),fun h2=>absurd h2 (Rat.not_le.2 h)⟩
 ·split
  ·rename_i h; exact ⟨fun _=>Rat.le_of_lt h,fun _=>by decide⟩
  ·rename_i h1 h2; exact ⟨fun _=>Rat.not_lt.1 h1,fun _=>by decide⟩
section
variable {L G:Nat->Int} {n:Nat}
end
section
variable {l:List DP} {a:Int} {w:List DR} {L G:Nat->Int}
end
end Go.Proofs.YtcbionahcldlnaaGreat.DW

namespace Go.Proofs.YtcbionahcldlnaaGreat.DW
open Go.RowKit Go.Sort Go.Lib
section
variable {α β:Type} [Inhabited α] [Inhabited β] (f:α->β)
theorem kpE_map {d:Array α} {m:Nat} (hm:m < d.size):kpE id (d.map f) m=kpE f d m:=by
 unfold kpE
 rw [amap_get f hm,amap_get f (by omega:m - 1 < d.size)]
 rfl
theorem cuE_map {d:Array α}:∀ m,m<=d.size->(cuE f d m).map f=cuE id (d.map f) m
 | 0,_=>rfl
 | m+1,hm=>by
  rw [cuE,cuE,List.map_append,cuE_map m (by omega),kpE_map f (by omega),amap_get f (by omega)]
  congr 1
  split<;>rfl
end
instance:Inhabited DR:=⟨tRat.zero⟩
noncomputable def cmQ (l:List DR):List DR:=cuE id l.toArray l.length
theorem cmQ_len (l:List DR):(cmQ l).length<=l.length:=cuE_len _
theorem cmQ_mem {l:List DR} {r:DR} (h:r ∈ cmQ l):r ∈ l:=by
 have:=cuE_mem l.length (Nat.le_of_eq (by simp)) h
 simpa using this
theorem compactQ_fn (l:List DR) (h0:0 < l.length) (hn:l.length<=1048576) (hP:∀ r ∈ l,gF r):FnR Tryz.prog 139 [.fn 112] 90 tRat l (cmQ l) true:=by
 refine ⟨enters_of Tryz.func139 (by kernel_rfl) rfl,fun w base v fps hG hown htab hone hg=>?_⟩
 obtain ⟨g,cap,cur,rfl,hb,hgg,hnc,hcm,hcs,d,hdx,hdf,hH⟩:=rowH_in (Pr:=gF) hg h0 hown hP
 have hdl:d.length=l.length:=by rw [<-hdx,List.length_map]
 letI:Inhabited (HQ w g):=⟨d[0]'(by omega)⟩
 have hgs:g < w.heap.size:=(Array.getElem?_eq_some_iff.1 hgg).1
 have hsz:d.toArray.size=l.length:=by rw [List.size_toArray,hdl]
 have hc:=compactQ_any g 0 cap w hgs d.toArray hH (by omega) (by omega) hG (htab g rfl)
 rw [hsz] at hc
 refine Calls.mono hc ?_
 rintro en w' ⟨rfl,n,os,rfl⟩
 have hmap:(cuE Hd.x d.toArray l.length).map Hd.x=cmQ l:=by
  rw [cuE_map Hd.x l.length (by omega)]
  have:d.toArray.map Hd.x=l.toArray:=by rw [List.map_toArray,hdx]
  rw [this]; rfl
 have hcl:=cuE_len (f:=Hd.x) (d:=d.toArray) l.length
 generalize hL:cuE Hd.x d.toArray l.length=L at hmap hcl ⊢
 have hlen:(L++List.replicate (l.length - L.length) (zQ w g)).length=l.length:=by rw [List.length_append,List.length_replicate]; omega
 obtain ⟨k1,k2⟩:=rowH_out (base:=base) (n:=n) (os:=os) (d:=L++List.replicate (l.length - L.length) (zQ w g)) hb hgg hcs hcm (by omega) L.length (by omega) rfl
 rw [List.take_left,hmap] at k1
 refine ⟨_,_,rfl,(fun h=>by cases h),rfl,rfl,k1,k2,fun b hbm=>?_⟩
 obtain ⟨ff,hff,hbf⟩:=List.mem_flatten.1 hbm
 obtain ⟨y,hy,rfl⟩:=List.mem_map.1 hff
 rw [<-hL] at hy
 have:=cuE_mem l.length (by omega) hy
 exact hdf y (by simpa using this) b hbf
noncomputable def keyQ (r:DR):Rat:=(rdO r).getD 0
noncomputable def leQ (r s:DR):Bool:=@decide (keyQ r<=keyQ s) (Classical.propDecidable _)
theorem leQ_iff {r s:DR}:leQ r s=true ↔ keyQ r<=keyQ s:=@decide_eq_true_iff _ (Classical.propDecidable _)
noncomputable def srQ (l:List DR):List DR:=l.mergeSort leQ
theorem srQ_len (l:List DR):(srQ l).length=l.length:=List.length_mergeSort _
theorem srQ_mem {l:List DR} {r:DR}:r ∈ srQ l ↔ r ∈ l:=(List.mergeSort_perm l leQ).mem_iff
theorem cmp_key {r s:DR} (hr:okR r=true) (hs:okR s=true):cmpO (rdO r) (rdO s) < 0 ↔ keyQ r < keyQ s:=by
 obtain ⟨p,_,e1,e2⟩:=okR_t hr
 obtain ⟨q,_,e3,e4⟩:=okR_t hs
 unfold keyQ
 rw [e2,e4]
 show cmpQ p q < 0 ↔ p < q
 have:=cmpQ_ge (p:=p) (q:=q)
 constructor
 ·intro h
  have:¬ q<=p:=fun h2=>by have:=this.2 h2; omega
  exact Rat.not_le.1 this
 ·intro h
  have:¬ 0<=cmpQ p q:=fun h2=>Rat.not_le.2 h (this.1 h2)
  omega
theorem key_inj {r s:DR} (hr:okR r=true) (hs:okR s=true) (h:keyQ r=keyQ s):r=s:=by
 obtain ⟨p,_,e1,e2⟩:=okR_t hr
 obtain ⟨q,_,e3,e4⟩:=okR_t hs
 unfold keyQ at h
 rw [e2,e4] at h
 have h:p=q:=h
 rw [e1,e3,h]
abbrev gV (r:DR):Prop:=okR r=true
theorem gV_gF {r:DR} (h:gV r):gF r:=okR_oD h
theorem ratCmpV_fn (x y:DR) (hx:gV x) (hy:gV y):Fn Tryz.prog 88 [⟨tRat,x⟩,⟨tRat,y⟩] false [⟨.int,cmpO (rdO x) (rdO y)⟩]:=by
 have:=ratCmp_fn (rdO x) (rdO y) (okO_rdO _) (okO_rdO _)
 rwa [okR_oD hx,okR_oD hy] at this
theorem rlt_trans {a b c:Rat} (h1:a < b) (h2:b < c):a < c:=Rat.not_le.1 fun h=>Rat.not_le.2 h1 (Rat.le_trans (Rat.le_of_lt h2) h)
theorem sortQ_fn (l:List DR) (h0:0 < l.length) (hn:l.length<=1048576) (hP:∀ r ∈ l,gV r):FnR Tryz.prog 138 [.fn 88] 90 tRat l (srQ l) false:=by
 refine FnR.ofRaw (enters_of Tryz.func138 (by kernel_rfl) rfl) fun w base v fps hG hown htab hg=>?_
 obtain ⟨g,cap,cur,rfl,hb,hgg,hnc,hcm,hcs,d,hdx,hdf,hH⟩:=rowH_in (Pr:=gV) hg h0 hown hP
 have hdl:d.length=l.length:=by rw [<-hdx,List.length_map]
 letI:Inhabited (Hd tRat gV w g):=⟨d[0]'(by omega)⟩
 have hgs:g < w.heap.size:=(Array.getElem?_eq_some_iff.1 hgg).1
 have hsz:d.toArray.size=l.length:=by rw [List.size_toArray,hdl]
 have hlt:∀ x y:Hd tRat gV w g,ltOf (fun x y:Hd tRat gV w g=>cmpO (rdO x.x) (rdO y.x)) x y=true ↔ keyQ x.x < keyQ y.x:=fun x y=>decide_eq_true_iff.trans (cmp_key x.ok y.ok)
 have hO:SWO (ltOf fun x y:Hd tRat gV w g=>cmpO (rdO x.x) (rdO y.x)):=by
  refine ⟨fun x=>?_,fun x y z h1 h2=>?_,fun x y z h1 h2=>?_⟩
  ·rw [Bool.eq_false_iff]; exact fun h=>Rat.lt_irrefl ((hlt x x).1 h)
  ·exact (hlt x z).2 (rlt_trans ((hlt x y).1 h1) ((hlt y z).1 h2))
  ·rw [Bool.eq_false_iff] at h1 h2 ⊢
   intro h
   have h3:=Rat.not_lt.1 fun k=>h1 ((hlt x y).2 k)
   have h4:=Rat.not_lt.1 fun k=>h2 ((hlt y z).2 k)
   exact Rat.not_lt.2 (Rat.le_trans h4 h3) ((hlt x z).1 h)
 have hcon:=AnyQ.slices_SortFunc sortQ 3 Tryz.isAgg90 Tryz.sizeOf90 (Hd.cs (t:=tRat) (Pr:=gV) (w:=w) (g:=g)) Hd.len Hd.one (fun x y=>cmpO (rdO x.x) (rdO y.x)) hO 88 #[] g 0 cap d.toArray w (enters_of Tryz.func88 (by kernel_rfl) rfl) (cmpLaysH (t:=tRat) rfl ratCmpV_fn hG (htab g rfl)) hH hgs (by omega)
 rw [hsz] at hcon
 refine Calls.mono hcon ?_
 rintro en w' ⟨rfl,d',n,os,hperm,hsorted,rfl⟩
 obtain ⟨hps,_,hp⟩:=hperm
 have hds:d'.size=l.length:=by rw [hps,hsz]
 have hp2:d'.toList.Perm d:=by
  have e1:d'.extract 0 l.length=d':=by rw [<-hds]; exact Array.extract_size
  have e2:d.toArray.extract 0 l.length=d.toArray:=by rw [<-hsz]; exact Array.extract_size
  rw [e1,e2] at hp
  simpa using hp
 have hmap:d'.toList.map Hd.x=srQ l:=by
  have hpm:(d'.toList.map Hd.x).Perm l:=by rw [<-hdx]; exact hp2.map _
  refine List.Perm.eq_of_pairwise (le:=fun x y=>leQ x y=true) ?_ ?_ ?_ (hpm.trans (List.mergeSort_perm _ _).symm)
  ·intro a b ha hb' h1 h2
   exact key_inj (hP a (hpm.mem_iff.1 ha)) (hP b (srQ_mem.1 hb')) (Rat.le_antisymm (leQ_iff.1 h1) (leQ_iff.1 h2))
  ·rw [List.pairwise_iff_getElem]
   intro i j hi hj hij
   have hi':i < d'.size:=by simpa using hi
   have hj':j < d'.size:=by simpa using hj
   have:=hsorted i j (Nat.zero_le _) hij (by omega)
   rw [getElem!_pos d' j hj',getElem!_pos d' i hi',Bool.eq_false_iff] at this
   rw [List.getElem_map,List.getElem_map,leQ_iff]
   exact Rat.not_lt.1 fun k=>this ((hlt _ _).2 k)
  ·refine List.pairwise_mergeSort ?_ ?_ _
   ·intro a b c h1 h2
    exact leQ_iff.2 (Rat.le_trans (leQ_iff.1 h1) (leQ_iff.1 h2))
   ·intro a b
    rw [Bool.or_eq_true,leQ_iff,leQ_iff]
    exact Rat.le_total
 have hdl2:d'.toList.length=l.length:=by rw [Array.length_toList,hds]
 obtain ⟨k1,k2⟩:=rowH_out (base:=base) (n:=n) (os:=os) (d:=d'.toList) hb hgg hcs hcm (Nat.le_trans (Nat.le_of_eq hdl2) hnc) l.length (Nat.le_of_eq hdl2.symm) rfl
 rw [List.take_of_length_le (Nat.le_of_eq hdl2),hmap] at k1
 refine ⟨_,rfl,k1,k2,fun b hbm=>?_⟩
 obtain ⟨ff,hff,hbf⟩:=List.mem_flatten.1 hbm
 obtain ⟨y,hy,rfl⟩:=List.mem_map.1 hff
 exact hdf y (hp2.mem_iff.1 hy) b hbf
theorem cloneQ_fn (l:List DR) (h0:0 < l.length) (hn:l.length<=1048576):FnL Tryz.prog 137 [⟨.slice tRat,l⟩] 90 tRat l:=by
 refine fnL_enter tabOK mixes Tryz.func137 rfl rfl _ Tryz.ntmps137 _ Tryz.results137 (by simp) fun hwf=>?_
 try simp (maxSteps:=9^9) only[go_sem]
 refine NilW.non (by intro e; rw [e] at h0; simp at h0) ?_
 try simp (maxSteps:=9^9) only[go_sem]
 repeat refine AI ?_
 exact ⟨0,1,_,rfl,rfl⟩
theorem sortedRats_fn (l:List DR) (h0:0 < l.length) (hn:l.length<=1048576) (hP:∀ r ∈ l,gV r):Fn Tryz.prog 92 [⟨.slice tRat,l⟩] false [⟨.slice tRat,cmQ (srQ l)⟩]:=by
 have c1:=cloneQ_fn l h0 hn
 have c2:=sortQ_fn l h0 hn hP
 have hl:=srQ_len l
 have c3:=compactQ_fn (srQ l) (by omega) (by omega) fun r hr=>gV_gF (hP r (srQ_mem.1 hr))
 refine fe Tryz.func92 Tryz.ntmps92 Tryz.results92 fun hwf=>?_
 try simp (maxSteps:=9^9) only[go_sem]
 repeat refine AI ?_
 refine CallW.l (c1) ?_
 try simp (maxSteps:=9^9) only[go_sem]
 repeat refine AI ?_
 refine CallW.r (k:=0) (ver:=0) (o:=false) (c2) ?_
 try simp (maxSteps:=9^9) only[go_sem]
 repeat refine AI ?_
 refine CallW.r (k:=0) (ver:=0) (o:=false) (c3) ?_
 try simp (maxSteps:=9^9) only[go_sem]
 all_goals repeat refine AI ?_
 all_goals first|kernel_rfl|omega|rfl
theorem rv_len (b a:DV) (r:List DV):(b :: a :: r).reverse.length=r.length+2:=by rw [List.length_reverse]; rfl
theorem nth_app {l m:List DV} {x:DV} (k:Nat) (h:k=l.length):nth (t:=tVec) (l++x :: m) k=x:=by
 subst h
 rw [nth_lt (by simp)]
 simp
theorem rv_a (b a:DV) (r:List DV):nth (t:=tVec) (b :: a :: r).reverse r.length=a:=by
 rw [List.reverse_cons,List.reverse_cons,List.append_assoc]
 exact nth_app _ (by simp)
theorem rv_b (b a:DV) (r:List DV):nth (t:=tVec) (b :: a :: r).reverse (r.length+1)=b:=by
 rw [List.reverse_cons,List.reverse_cons]
 exact nth_app _ (by simp)
theorem rv_take (b a:DV) (r:List DV):(b :: a :: r).reverse.take (r.length+1)=(a :: r).reverse:=by
 rw [List.reverse_cons,List.take_append_of_le_length (by simp),List.take_of_length_le (by simp)]
theorem popD_go {v b a:DV} {r:List DV} (h:trn a b v<=0):popD v (b :: a :: r)=popD v (a :: r):=by
 rw [popD,if_pos h]
theorem popD_end {v b a:DV} {r:List DV} (h:¬ trn a b v<=0):popD v (b :: a :: r)=b :: a :: r:=by
 rw [popD,if_neg h]
theorem popD_1 {v:DV} {s:List DV} (h:s.length<=1):popD v s=s:=by
 match s,h with
 | [],_=>rfl
 | [a],_=>rfl
def popOK (v:DV) (s0 s:List DV):Prop:=popD v s=popD v s0/\(∀ x ∈ s,okV x=true)/\s.length<=s0.length
theorem trq_ok {a b c:DV} (ha:okV a=true) (hb:okV b=true) (hc:okV c=true):trq a b c=trn a b c:=by
 unfold trq
 rw [ha,hb,hc]; rfl
theorem chain_fn (l:List DV) (hl:∀ v ∈ l,okV v=true) (h0:0 < l.length) (hn:l.length<=1048576):FnG Tryz.prog 237 [⟨.slice tVec,l⟩] 24 tVec (chD l):=by
 refine fnG_enter tabOK mixes Tryz.func237 rfl rfl _ Tryz.ntmps237 _ Tryz.results237 (by simp) fun hwf=>?_
 try simp (maxSteps:=9^9) only[go_sem]
 refine LoopG.intro _ _ _ (fun i:Nat=>⟨[(3,.row 0 0),(7,.sl tVec l),(8,.sc (.int .i64 l.length)),(9,.sc (.int .i64 i))],[(0,.row 24 tVec 0 true (chRi l i).reverse)]⟩) (fun i=>i<=l.length) (fun i=>l.length - i) 0 ?_ (Nat.zero_le _) ?_
 ·exact WK
 ·rintro i hi
  try simp (maxSteps:=9^9) only[go_sem]
  refine CondW_dec (fun hA=>?_) (fun hA=>?_)
  ·have hlt:i < l.length:=by omega
   have hv:=hl _ (nth_mem hlt)
   have hst:=chRi_step hlt
   have hcl:=chRi_len l i
   try simp (maxSteps:=9^9) only[go_sem]
   repeat refine AI ?_
   generalize hvv:nth (t:=tVec) l i=v at hv hst ⊢
   refine LoopG.intro _ _ _ (fun s:List DV=>⟨[(3,.row 0 0),(5,.ptr 1 0),(7,.sl tVec l),(8,.sc (.int .i64 l.length)),(9,.sc (.int .i64 i))],[(1,.box [.sc (.int .i64 v.1),.sc (.int .i64 v.2)]),(0,.row 24 tVec 0 true s.reverse)]⟩) (popOK v (chRi l i)) (fun s=>s.length) (chRi l i) ?_ ⟨rfl,fun x hx=>hl _ (chRi_mem hx),Nat.le_refl _⟩ ?_
   ·exact WK
   ·rintro s ⟨k1,k2,k3⟩
    by_cases h1:s.length<=1
    ·have hrl:s.reverse.length=s.length:=List.length_reverse
     have d1:=decide_eq_false (p:=(s.reverse.length:Int) > 1) (by omega)
     try simp (maxSteps:=9^9) only[go_sem,d1]
     repeat refine AI ?_
     refine LoopK.mk (i+1) ?_ (by omega) (by omega)
     rw [hst,<-k1,popD_1 h1,List.reverse_cons]
     refine Wk.mk [] ?_
     try simp (maxSteps:=9^9) only[go_sem]
     try (and_intros<;>first|rfl|omega|exact ⟨_,rfl⟩)
     all_goals (first|exact ⟨by omega,rfl⟩|exact ⟨rfl,rfl⟩)
    ·obtain ⟨b,a,r,rfl⟩:∃ b a r,s=b :: a :: r:=by
      match s,h1 with
      | b :: a :: r,_=>exact ⟨b,a,r,rfl⟩
      | [a],h=>exact absurd (Nat.le_refl _) h
      | [],h=>exact absurd (Nat.zero_le _) h
     have ea:=rv_a b a r
     have eb:=rv_b b a r
     have et:=rv_take b a r
     have hrl:=rv_len b a r
     have oa:=k2 a (by simp)
     have ob:=k2 b (by simp)
     have hrc:(b :: a :: r).reverse++[v]=(v :: b :: a :: r).reverse:=(List.reverse_cons ..).symm
     have hls:(b :: a :: r).length=r.length+2:=rfl
     generalize hw:(b :: a :: r).reverse=w at ea eb et hrl hrc ⊢
     have d1:=decide_eq_true (p:=(w.length:Int) > 1) (by omega)
     have e2:((w.length:Int) - 2).toNat=r.length:=by omega
     have e1:((w.length:Int) - 1).toNat=r.length+1:=by omega
     have c1:=turn_fn (nth (t:=tVec) w ((w.length:Int) - 2).toNat) (nth (t:=tVec) w ((w.length:Int) - 1).toNat) v (by rw [e2,ea]; exact oa) (by rw [e1,eb]; exact ob) hv
     try simp (maxSteps:=9^9) only[go_sem,d1]
     repeat refine AI ?_
     refine cw c1 ?_
     try simp (maxSteps:=9^9) only[go_sem]
     repeat refine AI ?_
     refine CondW_dec (fun hB=>?_) (fun hB=>?_)
     ·rw [e2,e1,ea,eb] at hB
      try simp (maxSteps:=9^9) only[go_sem]
      repeat refine AI ?_
      refine SlcW.cut (e:=24) (o:=true) ⟨rfl,rfl,?_⟩
      try simp (maxSteps:=9^9) only[go_sem]
      repeat refine AI ?_
      refine LoopK.mk (a :: r) ?_ ⟨(popD_go hB).symm.trans k1,fun x hx=>k2 x (List.mem_cons_of_mem _ hx),by simp at k3 ⊢; omega⟩ (by simp)
      rw [e1,et]
      refine Wk.mk [] ?_
      try simp (maxSteps:=9^9) only[go_sem]
      try (and_intros<;>first|rfl|omega|exact ⟨_,rfl⟩)
      all_goals (first|exact ⟨by omega,rfl⟩|exact ⟨rfl,rfl⟩|trace_state)
     ·rw [e2,e1,ea,eb] at hB
      try simp (maxSteps:=9^9) only[go_sem]
      repeat refine AI ?_
      refine LoopK.mk (i+1) ?_ (by omega) (by omega)
      rw [hst,<-k1,popD_end hB,hrc]
      refine Wk.mk [] ?_
      try simp (maxSteps:=9^9) only[go_sem]
      try (and_intros<;>first|rfl|omega|exact ⟨_,rfl⟩)
      all_goals (first|exact ⟨by omega,rfl⟩|exact ⟨rfl,rfl⟩)
  ·have hii:i=l.length:=by omega
   subst hii
   have hne:0 < (chRi l l.length).reverse.length:=by
    rw [List.length_reverse]
    have:=chRi_step (l:=l) (i:=l.length - 1) (by omega)
    rw [show l.length - 1+1=l.length by omega] at this
    rw [this]; simp
   have hcl:=chRi_len l l.length
   have hrl:(chRi l l.length).reverse.length=(chRi l l.length).length:=List.length_reverse
   have hcd:chD l=(chRi l l.length).reverse.take (((chRi l l.length).reverse.length:Int) - 1).toNat:=by
    unfold chD chRi
    rw [List.take_length,List.dropLast_eq_take]
    congr 1
    omega
   rw [hcd]
   generalize (chRi l l.length).reverse=w at hne hrl ⊢
   try simp (maxSteps:=9^9) only[go_sem]
   repeat refine AI ?_
   refine SlcW.cut (e:=24) (o:=true) ⟨rfl,rfl,?_⟩
   try simp (maxSteps:=9^9) only[go_sem]
   repeat refine AI ?_
   exact ⟨0,1,rfl,rfl⟩
theorem l06Chain_fn (l:List DV) (hl:∀ v ∈ l,okV v=true) (h0:0 < l.length) (hn:l.length<=1048576):Fn Tryz.prog 114 [⟨.slice tVec,l⟩] true [⟨.slice tVec,(chR l).reverse⟩]:=by
 refine fe Tryz.func114 Tryz.ntmps114 Tryz.results114 fun hwf=>?_
 try simp (maxSteps:=9^9) only[go_sem]
 refine LoopG.intro _ _ _ (fun i:Nat=>⟨[(3,.row 0 0),(7,.sl tVec l),(8,.sc (.int .i64 l.length)),(9,.sc (.int .i64 i))],[(0,.row 24 tVec 0 true (chRi l i).reverse)]⟩) (fun i=>i<=l.length) (fun i=>l.length - i) 0 ?_ (Nat.zero_le _) ?_
 ·exact WK
 ·rintro i hi
  try simp (maxSteps:=9^9) only[go_sem]
  refine CondW_dec (fun hA=>?_) (fun hA=>?_)
  ·have hlt:i < l.length:=by omega
   have hv:=hl _ (nth_mem hlt)
   have hst:=chRi_step hlt
   have hcl:=chRi_len l i
   try simp (maxSteps:=9^9) only[go_sem]
   repeat refine AI ?_
   generalize hvv:nth (t:=tVec) l i=v at hv hst ⊢
   refine LoopG.intro _ _ _ (fun s:List DV=>⟨[(3,.row 0 0),(5,.ptr 1 0),(7,.sl tVec l),(8,.sc (.int .i64 l.length)),(9,.sc (.int .i64 i))],[(1,.box [.sc (.int .i64 v.1),.sc (.int .i64 v.2)]),(0,.row 24 tVec 0 true s.reverse)]⟩) (popOK v (chRi l i)) (fun s=>s.length) (chRi l i) ?_ ⟨rfl,fun x hx=>hl _ (chRi_mem hx),Nat.le_refl _⟩ ?_
   ·exact WK
   ·rintro s ⟨k1,k2,k3⟩
    by_cases h1:s.length<=1
    ·have hrl:s.reverse.length=s.length:=List.length_reverse
     have d1:=decide_eq_false (p:=(s.reverse.length:Int) > 1) (by omega)
     try simp (maxSteps:=9^9) only[go_sem,d1]
     repeat refine AI ?_
     refine LoopK.mk (i+1) ?_ (by omega) (by omega)
     rw [hst,<-k1,popD_1 h1,List.reverse_cons]
     refine Wk.mk [] ?_
     try simp (maxSteps:=9^9) only[go_sem]
     try (and_intros<;>first|rfl|omega|exact ⟨_,rfl⟩)
     all_goals (first|exact ⟨by omega,rfl⟩|exact ⟨rfl,rfl⟩)
    ·obtain ⟨b,a,r,rfl⟩:∃ b a r,s=b :: a :: r:=by
      match s,h1 with
      | b :: a :: r,_=>exact ⟨b,a,r,rfl⟩
      | [a],h=>exact absurd (Nat.le_refl _) h
      | [],h=>exact absurd (Nat.zero_le _) h
     have ea:=rv_a b a r
     have eb:=rv_b b a r
     have et:=rv_take b a r
     have hrl:=rv_len b a r
     have oa:=k2 a (by simp)
     have ob:=k2 b (by simp)
     have hrc:(b :: a :: r).reverse++[v]=(v :: b :: a :: r).reverse:=(List.reverse_cons ..).symm
     have hls:(b :: a :: r).length=r.length+2:=rfl
     generalize hw:(b :: a :: r).reverse=w at ea eb et hrl hrc ⊢
     have d1:=decide_eq_true (p:=(w.length:Int) > 1) (by omega)
     have e2:((w.length:Int) - 2).toNat=r.length:=by omega
     have e1:((w.length:Int) - 1).toNat=r.length+1:=by omega
     have c1:=Turn_fn (nth (t:=tVec) w ((w.length:Int) - 2).toNat) (nth (t:=tVec) w ((w.length:Int) - 1).toNat) v
     rw [trq_ok (by rw [e2,ea]; exact oa) (by rw [e1,eb]; exact ob) hv] at c1
     try simp (maxSteps:=9^9) only[go_sem,d1]
     repeat refine AI ?_
     refine cw c1 ?_
     try simp (maxSteps:=9^9) only[go_sem]
     repeat refine AI ?_
     refine CondW_dec (fun hB=>?_) (fun hB=>?_)
     ·rw [e2,e1,ea,eb] at hB
      try simp (maxSteps:=9^9) only[go_sem]
      repeat refine AI ?_
      refine SlcW.cut (e:=24) (o:=true) ⟨rfl,rfl,?_⟩
      try simp (maxSteps:=9^9) only[go_sem]
      repeat refine AI ?_
      refine LoopK.mk (a :: r) ?_ ⟨(popD_go hB).symm.trans k1,fun x hx=>k2 x (List.mem_cons_of_mem _ hx),by simp at k3 ⊢; omega⟩ (by simp)
      rw [e1,et]
      refine Wk.mk [] ?_
      try simp (maxSteps:=9^9) only[go_sem]
      try (and_intros<;>first|rfl|omega|exact ⟨_,rfl⟩)
      all_goals (first|exact ⟨by omega,rfl⟩|exact ⟨rfl,rfl⟩|trace_state)
     ·rw [e2,e1,ea,eb] at hB
      try simp (maxSteps:=9^9) only[go_sem]
      repeat refine AI ?_
      refine LoopK.mk (i+1) ?_ (by omega) (by omega)
      rw [hst,<-k1,popD_end hB,hrc]
      refine Wk.mk [] ?_
      try simp (maxSteps:=9^9) only[go_sem]
      try (and_intros<;>first|rfl|omega|exact ⟨_,rfl⟩)
      all_goals (first|exact ⟨by omega,rfl⟩|exact ⟨rfl,rfl⟩)
  ·have hcr:(chR l).reverse=(chRi l i).reverse:=by
    unfold chRi
    rw [List.take_of_length_le (by omega)]
   rw [hcr]
   try simp (maxSteps:=9^9) only[go_sem]
end Go.Proofs.YtcbionahcldlnaaGreat.DW
