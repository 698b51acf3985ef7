/-
  Texts of a proof, one behind another: Dw42, Dw43, So0, So1, Cp1, Cp2, Dw44, Hv1, Hv2, Hv3, Dw45, Dw62, Dw151, Dw160, Nu2, Dw161, Dw154, Dw155, Dw156, Dw162, Rept, Dw163, Dw164, LwT, BtsV, LwS, Dw130, Dw131, Dw165, Nu3, Dw81, Dw35, Sp4, Dw171, So5, Rw5, Dw80.
-/
import Derived.Shelf.SlSortCmp.NoneTotal
import Derived.Lib.SlicesCompact
import Derived.Shelf.RegionOpenPlain
import Derived.WalkKit
import Derived.Deep.LoopGhost
import Derived.Deep.Draws
import Derived.Lib.Walk
import Derived.Sort.WalkB12
import Derived.Lib.SliceRun
import Derived.Shelf.Bits.Mul64
import Derived.Laws.CopyOwn
import Derived.Shelf.Sort.Plain
import Derived.Shelf.Slices.CompactI
import Derived.Shelf.Slices.In.SortNone
import Derived.Test.YtkaclgdhlpphhaaGreatKSl4
set_option linter.all false
set_option maxRecDepth 100000
set_option maxHeartbeats 16000000
open Go.Proofs.Tryz
open Nat (le_refl zero_le le_trans add_zero not_lt_zero succ_le_succ)
open List (mem_append replicate mem_singleton mem_cons mem_cons_self getElem?_eq_getElem mem_cons_of_mem length_append length_take getElem?_take mem_map length_set getElem_of_mem length_map length_cons getElem_mem any_eq_false length_replicate map_cons take_of_length_le append_nil pairwise_cons take_length length_reverse getElem?_replicate length_mergeSort append_assoc mem_replicate getElem_map mem_reverse reverse_cons mem_append_left mem_map_of_mem take_add_one getElem_replicate pairwise_iff_getElem getElem_toArray getElem_range Pairwise length_dropLast pairwise_append head?_map)
open Array (length_toList)
open Int (mul_nonneg mul_eq_zero mul_zero sub_zero)
open Bool (not_eq_true')
open Rat (intCast_mul not_lt not_le)
open Prod (snd fst)
noncomputable section
namespace Go.Proofs.YtkaclgdhlpphhaaGreat
namespace DW
open Go.RowKit
theorem Qq (b a:DV) (r:List DV):(b :: a :: r).reverse.length=r.length+2:=by rw[length_reverse]; rfl
theorem Mz {l m:List DV} {x:DV} (k:Nat) (h:k=l.length):nth (t:=an) (l++x :: m) k=x:=by
 subst h
 rw[aM ah]
 simp
theorem aaR (b a:DV) (r:List DV):nth (t:=an) (b :: a :: r).reverse r.length=a:=by
 rw[reverse_cons,reverse_cons,append_assoc]
 exact Mz _ ah
theorem Zw (b a:DV) (r:List DV):nth (t:=an) (b :: a :: r).reverse (r.length+1)=b:=by
 rw[reverse_cons,reverse_cons]
 exact Mz _ ah
theorem Mv (b a:DV) (r:List DV):(b :: a :: r).reverse.take (r.length+1)=(a :: r).reverse:=by
 rw[reverse_cons,List.take_append_of_le_length ah,take_of_length_le ah]
theorem Ny {v b a:DV} {r:List DV} (h:bQ a b v<=0):fN v (b :: a :: r)=fN v (a :: r):=by
 rw[fN,if_pos h]
theorem Ii {v b a:DV} {r:List DV} (h:¬ bQ a b v<=0):fN v (b :: a :: r)=b :: a :: r:=by
 rw[fN,if_neg h]
theorem Sh {v:DV} {s:List DV} (h:s.length<=1):fN v s=s:=by
 match s,h with
 | [],_=>rfl
 | [a],_=>rfl
def Xe (v:DV) (s0 s:List DV):Prop:=fN v s=fN v s0/\(∀x ∈ s,bm x=true)/\s.length<=s0.length
theorem aaw {a b c:DV} (ha:bm a=true) (hb:bm b=true) (hc:bm c=true):Kg a b c=bQ a b c:=by
 unfold Kg
 rw[ha,hb,hc]; rfl
theorem Hh (l:List DV) (hl:∀v ∈ l,bm v=true) (h0:0 < l.length) (hn:l.length<=1048576):xt prog 359 [⟨.slice an,l⟩] 24 an (py l):=by
 refine pz bK bA func359 rfl rfl _ ntmps359 _ results359 ah fun hwf=>?_
 refine Nz ?_
 refine aF.intro _ _ _ (fun i:Nat=>⟨[(3,.row 0 0),(7,.sl an l),(8,.sc (.int .i64 l.length)),(9,.sc (.int .i64 i))],[(0,.row 24 an 0 true (eF l i).reverse)]⟩) (fun i=>i<=l.length) (fun i=>l.length - i) 0 ?_ (zero_le _) ?_
 ·exact WK
 ·rintro i hi
  refine Nz ?_
  refine ao ?_ ?_<;>intro hA
  ·have hlt:i < l.length:=J
   have hv:=hl _ (aU hlt)
   have hst:=na hlt
   have hcl:=ox l i
   refine Sz ?_
   generalize hvv:nth (t:=an) l i=v at hv hst ⊢
   refine aF.intro _ _ _ (fun s:List DV=>⟨[(3,.row 0 0),(5,.ptr 1 0),(7,.sl an l),(8,.sc (.int .i64 l.length)),(9,.sc (.int .i64 i))],[(1,.box [.sc (.int .i64 v.1),.sc (.int .i64 v.2)]),(0,.row 24 an 0 true s.reverse)]⟩) (Xe v (eF l i)) (fun s=>s.length) (eF l i) ?_ ⟨rfl,fun x hx=>hl _ (rJ hx),le_refl _⟩ ?_
   ·exact WK
   ·rintro s ⟨k1,k2,k3⟩
    by_cases h1:s.length<=1
    ·have hrl:s.reverse.length=s.length:=length_reverse
     have d1:=ak (p:=(s.reverse.length:Int) > 1) J
     refine Tz d1 ?_
     refine az.mk (i+1) ?_ J J
     rw[hst,<-k1,Sh h1,reverse_cons]
     refine Wk.mk [] ?_
     refine Nz ?_
     try (and_intros<;>first|rfl|omega|exact⟨_,rfl⟩)
     all_goals (first|exact⟨J,rfl⟩|exact⟨rfl,rfl⟩)
    ·obtain⟨b,a,r,rfl⟩:∃b a r,s=b :: a :: r:=by
      match s,h1 with
      | b :: a :: r,_=>exact⟨b,a,r,rfl⟩
      | [a],h=>exact absurd (le_refl _) h
      | [],h=>exact absurd (zero_le _) h
     have ea:=aaR b a r
     have eb:=Zw b a r
     have et:=Mv b a r
     have hrl:=Qq b a r
     have oa:=k2 a ah
     have ob:=k2 b ah
     have hrc:(b :: a :: r).reverse++[v]=(v :: b :: a :: r).reverse:=(reverse_cons ..).symm
     have hls:(b :: a :: r).length=r.length+2:=rfl
     generalize hw:(b :: a :: r).reverse=w at ea eb et hrl hrc ⊢
     have d1:=aj (p:=(w.length:Int) > 1) J
     have e2:((w.length:Int) - 2).toNat=r.length:=J
     have e1:((w.length:Int) - 1).toNat=r.length+1:=J
     have c1:=M6 (nth (t:=an) w ((w.length:Int) - 2).toNat) (nth (t:=an) w ((w.length:Int) - 1).toNat) v (by rw[e2,ea]; exact oa) (by rw[e1,eb]; exact ob) hv
     refine Tz d1 ?_
     refine cw c1 ?_
     refine Sz ?_
     refine ao ?_ ?_<;>intro hB
     ·rw[e2,e1,ea,eb] at hB
      refine Sz ?_
      refine mB.cut (e:=24) (o:=true) ⟨rfl,rfl,?_⟩
      refine Sz ?_
      refine az.mk (a :: r) ?_ ⟨(Ny hB).symm.trans k1,fun x hx=>k2 x (mem_cons_of_mem _ hx),by simp at k3 ⊢; omega⟩ ah
      rw[e1,et]
      refine Wk.mk [] ?_
      try simp (maxSteps:=9^9) only[go_sem]
      try (and_intros<;>first|rfl|omega|exact⟨_,rfl⟩)
      all_goals (first|exact⟨J,rfl⟩|exact⟨rfl,rfl⟩|trace_state)
     ·rw[e2,e1,ea,eb] at hB
      refine Sz ?_
      refine az.mk (i+1) ?_ J J
      rw[hst,<-k1,Ii hB,hrc]
      refine Wk.mk [] ?_
      refine Nz ?_
      try (and_intros<;>first|rfl|omega|exact⟨_,rfl⟩)
      all_goals (first|exact⟨J,rfl⟩|exact⟨rfl,rfl⟩)
  ·have hii:i=l.length:=J
   subst hii
   have hne:0 < (eF l l.length).reverse.length:=by
    rw[length_reverse]
    have:=na (l:=l) (i:=l.length - 1) J
    rw[show l.length - 1+1=l.length from J] at this
    rw[this]; simp
   have hcl:=ox l l.length
   have hrl:(eF l l.length).reverse.length=(eF l l.length).length:=length_reverse
   have hcd:py l=(eF l l.length).reverse.take (((eF l l.length).reverse.length:Int) - 1).toNat:=by
    unfold py eF
    rw[take_length,List.dropLast_eq_take]
    congr 1
    omega
   rw[hcd]
   generalize (eF l l.length).reverse=w at hne hrl ⊢
   refine Sz ?_
   refine mB.cut (e:=24) (o:=true) ⟨rfl,rfl,?_⟩
   refine Sz ?_
   exact⟨0,1,rfl,rfl⟩
theorem z6 (l:List DV) (hl:∀v ∈ l,bm v=true) (h0:0 < l.length) (hn:l.length<=1048576):Fn prog 245 [⟨.slice an,l⟩] true [⟨.slice an,(gJ l).reverse⟩]:=by
 refine fe func245 ntmps245 results245 fun hwf=>?_
 refine Nz ?_
 refine aF.intro _ _ _ (fun i:Nat=>⟨[(3,.row 0 0),(7,.sl an l),(8,.sc (.int .i64 l.length)),(9,.sc (.int .i64 i))],[(0,.row 24 an 0 true (eF l i).reverse)]⟩) (fun i=>i<=l.length) (fun i=>l.length - i) 0 ?_ (zero_le _) ?_
 ·exact WK
 ·rintro i hi
  refine Nz ?_
  refine ao ?_ ?_<;>intro hA
  ·have hlt:i < l.length:=J
   have hv:=hl _ (aU hlt)
   have hst:=na hlt
   have hcl:=ox l i
   refine Sz ?_
   generalize hvv:nth (t:=an) l i=v at hv hst ⊢
   refine aF.intro _ _ _ (fun s:List DV=>⟨[(3,.row 0 0),(5,.ptr 1 0),(7,.sl an l),(8,.sc (.int .i64 l.length)),(9,.sc (.int .i64 i))],[(1,.box [.sc (.int .i64 v.1),.sc (.int .i64 v.2)]),(0,.row 24 an 0 true s.reverse)]⟩) (Xe v (eF l i)) (fun s=>s.length) (eF l i) ?_ ⟨rfl,fun x hx=>hl _ (rJ hx),le_refl _⟩ ?_
   ·exact WK
   ·rintro s ⟨k1,k2,k3⟩
    by_cases h1:s.length<=1
    ·have hrl:s.reverse.length=s.length:=length_reverse
     have d1:=ak (p:=(s.reverse.length:Int) > 1) J
     refine Tz d1 ?_
     refine az.mk (i+1) ?_ J J
     rw[hst,<-k1,Sh h1,reverse_cons]
     refine Wk.mk [] ?_
     refine Nz ?_
     try (and_intros<;>first|rfl|omega|exact⟨_,rfl⟩)
     all_goals (first|exact⟨J,rfl⟩|exact⟨rfl,rfl⟩)
    ·obtain⟨b,a,r,rfl⟩:∃b a r,s=b :: a :: r:=by
      match s,h1 with
      | b :: a :: r,_=>exact⟨b,a,r,rfl⟩
      | [a],h=>exact absurd (le_refl _) h
      | [],h=>exact absurd (zero_le _) h
     have ea:=aaR b a r
     have eb:=Zw b a r
     have et:=Mv b a r
     have hrl:=Qq b a r
     have oa:=k2 a ah
     have ob:=k2 b ah
     have hrc:(b :: a :: r).reverse++[v]=(v :: b :: a :: r).reverse:=(reverse_cons ..).symm
     have hls:(b :: a :: r).length=r.length+2:=rfl
     generalize hw:(b :: a :: r).reverse=w at ea eb et hrl hrc ⊢
     have d1:=aj (p:=(w.length:Int) > 1) J
     have e2:((w.length:Int) - 2).toNat=r.length:=J
     have e1:((w.length:Int) - 1).toNat=r.length+1:=J
     have c1:=NL (nth (t:=an) w ((w.length:Int) - 2).toNat) (nth (t:=an) w ((w.length:Int) - 1).toNat) v
     rw[aaw (by rw[e2,ea]; exact oa) (by rw[e1,eb]; exact ob) hv] at c1
     refine Tz d1 ?_
     refine cw c1 ?_
     refine Sz ?_
     refine ao ?_ ?_<;>intro hB
     ·rw[e2,e1,ea,eb] at hB
      refine Sz ?_
      refine mB.cut (e:=24) (o:=true) ⟨rfl,rfl,?_⟩
      refine Sz ?_
      refine az.mk (a :: r) ?_ ⟨(Ny hB).symm.trans k1,fun x hx=>k2 x (mem_cons_of_mem _ hx),by simp at k3 ⊢; omega⟩ ah
      rw[e1,et]
      refine Wk.mk [] ?_
      try simp (maxSteps:=9^9) only[go_sem]
      try (and_intros<;>first|rfl|omega|exact⟨_,rfl⟩)
      all_goals (first|exact⟨J,rfl⟩|exact⟨rfl,rfl⟩|trace_state)
     ·rw[e2,e1,ea,eb] at hB
      refine Sz ?_
      refine az.mk (i+1) ?_ J J
      rw[hst,<-k1,Ii hB,hrc]
      refine Wk.mk [] ?_
      refine Nz ?_
      try (and_intros<;>first|rfl|omega|exact⟨_,rfl⟩)
      all_goals (first|exact⟨J,rfl⟩|exact⟨rfl,rfl⟩)
  ·have hcr:(gJ l).reverse=(eF l i).reverse:=by
    unfold eF
    rw[take_of_length_le J]
   rw[hcr]
   try simp (maxSteps:=9^9) only[go_sem]
theorem OT (a b:DV):Fn prog 244 [⟨an,a⟩,⟨an,b⟩] false [⟨.bool,decide (cg a b)⟩]:=by
 by_cases h1:a.1 < b.1
 ·have d1:=aj h1
  rw[aj (p:=cg a b) (.inl h1)]
  refine fe func244 ntmps244 results244 fun hwf=>?_
  try simp (maxSteps:=9^9) only[go_sem,d1]
 ·have d1:=ak h1
  by_cases h2:a.1=b.1
  ·have d2:=aj h2
   have e:decide (cg a b)=decide (a.2 < b.2):=by
    by_cases h3:a.2 < b.2
    ·rw[aj h3,aj (p:=cg a b) (.inr ⟨h2,h3⟩)]
    ·rw[ak h3,ak (p:=cg a b) (fun h=>by unfold cg at h; omega)]
   rw[e]
   refine fe func244 ntmps244 results244 fun hwf=>?_
   try simp (maxSteps:=9^9) only[go_sem,d1,d2]
  ·have d2:=ak h2
   rw[ak (p:=cg a b) (fun h=>by unfold cg at h; omega)]
   refine fe func244 ntmps244 results244 fun hwf=>?_
   try simp (maxSteps:=9^9) only[go_sem,d1,d2]
def Gj (l:List DV) (n:Nat):List DV:=l.reverse.take n
theorem Up {l:List DV} {n:Nat} (h:n < l.length):Gj l (n+1)=Gj l n++[nth (t:=an) l (l.length - 1 - n)]:=by
 unfold Gj
 rw[take_add_one,getElem?_eq_getElem (by rw[length_reverse]; exact h),List.getElem_reverse,aM J]
 rfl
theorem Zk {l:List DV} {n:Nat} (h:n<=l.length):(Gj l n).length=n:=by
 unfold Gj; rw[length_take,length_reverse]; omega
theorem Zd {l:List DV} {n:Nat} (h:l.length<=n):Gj l n=l.reverse:=by
 unfold Gj; rw[take_of_length_le (by rw[length_reverse]; exact h)]
theorem S4 {l:List DV} (h:(fa l).length < 3):bT l=fa l:=by
 unfold bT
 split
 ·rfl
 ·match hs:fa l,h with
  | [],_=>rfl
  | [a],_=>exact absurd (show (fa l).length < 2 by rw[hs]; exact Nat.lt_succ_self _) (by assumption)
  | [a,b],_=>rfl
theorem Hy (l:List DV):py l=(gJ l).reverse.take ((gJ l).reverse.length - 1):=List.dropLast_eq_take
theorem yC (l:List DV):(gJ l).length<=l.length:=by
 have:=ox l l.length
 unfold eF at this
 rwa [take_length] at this
theorem MQ (l:List DV) (h:0 < l.length):0 < (gJ l).length:=by
 have:=na (l:=l) (i:=l.length - 1) J
 rw[show l.length - 1+1=l.length from J] at this
 unfold eF at this
 rw[take_length] at this
 rw[this]; simp
theorem Lp (l:List DV) (hl:∀v ∈ l,bm v=true) (hn:l.length<=64):Fn prog 176 [⟨.slice an,l⟩] true [⟨.slice an,bT l⟩]:=by
 have d0:=ak (p:=(l.length:Int) > 64) J
 refine fe func176 ntmps176 results176 fun hwf=>?_
 refine Uz d0 ?_
 refine aF.intro _ _ _ (fun i:Nat=>⟨[(3,.row 0 0),(17,.sl an l),(18,.sc (.int .i64 l.length)),(19,.sc (.int .i64 i))],[(0,.row 24 an 0 true (oC l i))]⟩) (fun i=>i<=l.length) (fun i=>l.length - i) 0 ?_ (zero_le _) ?_
 ·exact WK
 ·rintro i hi
  refine Nz ?_
  refine ao ?_ ?_<;>intro hA
  ·have hlt:i < l.length:=J
   have hv:=hl _ (aU hlt)
   have hst:=F7 hlt
   have hcl:=Ak l i
   have c1:=fW (nth (t:=an) l i)
   rw[hv] at c1
   generalize hvv:nth (t:=an) l i=v at hv hst c1 ⊢
   generalize hss:oC l i=s at hst hcl ⊢
   refine Tz hvv ?_
   refine cw c1 ?_
   refine Nz ?_
   refine aF.intro _ _ _ (fun j:Nat=>⟨[(3,.row 0 0),(5,.ptr 1 0),(6,.sc (.int .i64 j)),(17,.sl an l),(18,.sc (.int .i64 l.length)),(19,.sc (.int .i64 i))],[(1,.box [.sc (.int .i64 v.1),.sc (.int .i64 v.2)]),(0,.row 24 an 0 true s)]⟩) (fun j=>j<=s.length/\∀j',j' < j->cg (nth (t:=an) s j') v) (fun j=>s.length - j) 0 ?_ ⟨zero_le _,fun j h=>absurd h (not_lt_zero _)⟩ ?_
   ·exact WK
   ·rintro j ⟨k1,k2⟩
    have hins:=NB (p:=v) (l:=s) (i:=j) k1 k2
    have e5:s.take j++v :: s.drop j=s.take j++[v]++s.drop j:=by rw[append_assoc]; rfl
    have hlm:(s.take j).length=j:=by rw[length_take]; omega
    have hlm2:(s.take j++[v]).length=j+1:=by rw[length_append,hlm]; rfl
    have hlm3:(s.drop j).length=s.length - j:=List.length_drop
    by_cases hj:j < s.length
    ·have d1:=aj (p:=(j:Int) < (s.length:Int)) J
     have c2:=OT (nth (t:=an) s j) v
     by_cases hlt2:cg (nth (t:=an) s j) v
     ·rw[aj hlt2] at c2
      refine Tz d1 ?_
      refine cw c2 ?_
      refine Sz ?_
      refine az.mk (j+1) ?_ ⟨J,fun j' hj'=>?_⟩ J
      ·exact WK
      ·by_cases h:j' < j
       ·exact k2 j' h
       ·rw[show j'=j from J]; exact hlt2
     ·rw[ak hlt2] at c2
      have hins:=hins fun _=>hlt2
      by_cases he:nth (t:=an) s j=v
      ·have e3:(decide ((nth (t:=an) s j).1=v.1) && decide ((nth (t:=an) s j).2=v.2))=true:=by rw[he]; simp
       rw[if_pos ⟨hj,he⟩] at hins
       refine Tz d1 ?_
       refine cw c2 ?_
       refine Sz ?_
       refine fy d1 e3 ?_
       refine az.mk (i+1) ?_ J J
       rw[hst,hins]
       exact WK
      ·have e3:(decide ((nth (t:=an) s j).1=v.1) && decide ((nth (t:=an) s j).2=v.2))=false:=by
        by_cases q1:(nth (t:=an) s j).1=v.1
        ·by_cases q2:(nth (t:=an) s j).2=v.2
         ·exact absurd (Prod.ext q1 q2) he
         ·rw[ak q2,Bool.and_false]
        ·rw[ak q1,Bool.false_and]
       rw[if_neg (fun h=>he h.2)] at hins
       refine Tz d1 ?_
       refine cw c2 ?_
       refine Sz ?_
       refine fy d1 e3 ?_
       refine mB.keep ?_
       refine Sz ?_
       refine mB.keep ?_
       try simp (maxSteps:=9^9) only[go_sem,take_length]
       repeat refine AI ?_
       refine az.mk (i+1) ?_ J J
       rw[hst,hins,e5]
       refine Wk.mk [(0,2)] ?_
       refine Nz ?_
       try (and_intros<;>first|rfl|omega|exact⟨_,rfl⟩)
       all_goals (first|exact⟨J,rfl⟩|exact⟨rfl,rfl⟩)
    ·have d1:=ak (p:=(j:Int) < (s.length:Int)) J
     have hins:=hins fun h=>absurd h hj
     rw[if_neg (fun h=>hj h.1)] at hins
     refine Tz d1 ?_
     refine Tz d1 ?_
     refine mB.keep ?_
     refine Sz ?_
     refine mB.keep ?_
     try simp (maxSteps:=9^9) only[go_sem,take_length]
     repeat refine AI ?_
     refine az.mk (i+1) ?_ J J
     rw[hst,hins,e5]
     refine Wk.mk [(0,2)] ?_
     refine Nz ?_
     try (and_intros<;>first|rfl|omega|exact⟨_,rfl⟩)
     all_goals (first|exact⟨J,rfl⟩|exact⟨rfl,rfl⟩)
  ·have hii:i=l.length:=J
   subst hii
   rw[Vc]
   have hsm:∀v ∈ fa l,bm v=true:=fun v hv=>hl v (ja.1 hv)
   have hsl:=Hk l
   by_cases h3:(fa l).length < 3
   ·rw[S4 h3]
    generalize fa l=s at h3 hsl ⊢
    have d3:=aj (p:=(s.length:Int) < 3) J
    try simp (maxSteps:=9^9) only[go_sem,d3]
   ·have hh:bT l=py (fa l)++py (fa l).reverse:=by unfold bT; rw[if_neg J]
    rw[hh,Hy,Hy]
    generalize fa l=s at h3 hsl hsm ⊢
    have d3:=ak (p:=(s.length:Int) < 3) J
    have hrl:s.reverse.length=s.length:=length_reverse
    have c3:=z6 s hsm J J
    have c4:=z6 s.reverse (fun v hv=>hsm v (mem_reverse.1 hv)) J J
    refine Tz d3 ?_
    refine aF.intro _ _ _ (fun n:Nat=>⟨[(3,.row 0 0),(8,.row 1 0),(9,.sc (.int .i64 ((s.length:Int) - 1 - n)))],[(1,.row 24 an 0 true (Gj s n)),(0,.row 24 an 0 true s)]⟩) (fun n=>n<=s.length) (fun n=>s.length - n) 0 ?_ (zero_le _) ?_
    ·exact WK
    ·rintro n hn2
     refine Nz ?_
     refine ao ?_ ?_<;>intro hB
     ·have hbl:=Zk (l:=s) (n:=n) J
      have hbs:=Up (l:=s) (n:=n) J
      have ei:((s.length:Int) - 1 - n).toNat=s.length - 1 - n:=J
      refine Sz ?_
      rw[ei]
      refine Tz hbl ?_
      refine az.mk (n+1) ?_ J J
      rw[hbs]
      exact WK
     ·rw[Zd J]
      have q1:=yC s
      have q2:=MQ s J
      have q3:=yC s.reverse
      have q4:=MQ s.reverse J
      have q5:(gJ s).reverse.length=(gJ s).length:=length_reverse
      have q6:(gJ s.reverse).reverse.length=(gJ s.reverse).length:=length_reverse
      generalize (gJ s).reverse=lo at c3 q5 ⊢
      generalize (gJ s.reverse).reverse=hi at c4 q6 ⊢
      have e7:((lo.length:Int) - 1).toNat=lo.length - 1:=J
      have e8:((hi.length:Int) - 1).toNat=hi.length - 1:=J
      have q7:(lo.take (lo.length - 1)).length=lo.length - 1:=by rw[length_take]; omega
      have q8:(hi.take (hi.length - 1)).length=hi.length - 1:=by rw[length_take]; omega
      refine Cz c3 ?_
      refine cw c4 ?_
      refine Sz ?_
      refine mB.keep ?_
      refine Nz ?_
      rw[e7]
      refine Tz q7 ?_
      refine mB.keep ?_
      refine Nz ?_
      rw[e8]
      refine fy q7 q8 ?_
      refine tW q7 q8 ?_
      omega
end DW

namespace DW
open Go.RowKit Go.Shelf
def Qs:Go.Shelf.Ren:=⟨fun|6=>356|14=>373|15=>143|20=>376|21=>377|22=>378|23=>379|24=>380|25=>381|26=>382|27=>383|28=>221|29=>222|46=>384|47=>286|48=>287|49=>385|50=>386|57=>387|n=>n,fun|0=>0|3=>3|4=>4|5=>5|9=>9|22=>25|23=>341|24=>24|25=>342|39=>194|45=>258|46=>259|47=>351|50=>264|53=>267|55=>269|66=>306|70=>310|76=>329|77=>125|n=>n,fun n=>n⟩
theorem aby:SlLaysF0.n6 prog Qs where
 mixed:=by kernel_rfl
 f6:=⟨"slices.SortFunc[[]loop.example/g00811/impl.Vec,loop.example/g00811/impl.Vec]",ae,func356.trans (congrArg some ai)⟩
 f14:=⟨"slices.pdqsortCmpFunc[loop.example/g00811/impl.Vec]",ae,func373.trans (congrArg some ai)⟩
 f15:=func143.trans (congrArg some ai)
 f20:=⟨"slices.insertionSortCmpFunc[loop.example/g00811/impl.Vec]",ae,func376.trans (congrArg some ai)⟩
 f21:=⟨"slices.heapSortCmpFunc[loop.example/g00811/impl.Vec]",ae,func377.trans (congrArg some ai)⟩
 f22:=⟨"slices.breakPatternsCmpFunc[loop.example/g00811/impl.Vec]",ae,func378.trans (congrArg some ai)⟩
 f23:=⟨"slices.choosePivotCmpFunc[loop.example/g00811/impl.Vec]",ae,func379.trans (congrArg some ai)⟩
 f24:=⟨"slices.reverseRangeCmpFunc[loop.example/g00811/impl.Vec]",ae,func380.trans (congrArg some ai)⟩
 f25:=⟨"slices.partialInsertionSortCmpFunc[loop.example/g00811/impl.Vec]",ae,func381.trans (congrArg some ai)⟩
 f26:=⟨"slices.partitionEqualCmpFunc[loop.example/g00811/impl.Vec]",ae,func382.trans (congrArg some ai)⟩
 f27:=⟨"slices.partitionCmpFunc[loop.example/g00811/impl.Vec]",ae,func383.trans (congrArg some ai)⟩
 f28:=func221.trans (congrArg some ai)
 f29:=func222.trans (congrArg some ai)
 f46:=⟨"slices.siftDownCmpFunc[loop.example/g00811/impl.Vec]",ae,func384.trans (congrArg some ai)⟩
 f47:=func286.trans (congrArg some ai)
 f48:=func287.trans (congrArg some ai)
 f49:=⟨"slices.medianAdjacentCmpFunc[loop.example/g00811/impl.Vec]",ae,func385.trans (congrArg some ai)⟩
 f50:=⟨"slices.medianCmpFunc[loop.example/g00811/impl.Vec]",ae,func386.trans (congrArg some ai)⟩
 f57:=⟨"slices.order2CmpFunc[loop.example/g00811/impl.Vec]",ae,func387.trans (congrArg some ai)⟩
 t0:=Tryz.underlying0
 a0:=Tryz.isAgg0
 z0:=Tryz.sizeOf0
 v0:=Tryz.zeroValue0
 t3:=Tryz.underlying3
 a3:=Tryz.isAgg3
 z3:=Tryz.sizeOf3
 v3:=Tryz.zeroValue3
 t4:=Tryz.underlying4
 a4:=Tryz.isAgg4
 z4:=Tryz.sizeOf4
 v4:=Tryz.zeroValue4
 t5:=Tryz.underlying5
 a5:=Tryz.isAgg5
 z5:=Tryz.sizeOf5
 v5:=Tryz.zeroValue5
 t9:=Tryz.underlying9
 a9:=Tryz.isAgg9
 z9:=Tryz.sizeOf9
 v9:=Tryz.zeroValue9
 t22:=Tryz.underlying25
 a22:=Tryz.isAgg25
 z22:=Tryz.sizeOf25
 v22:=Tryz.zeroValue25
 t25:=Tryz.underlying342
 a25:=Tryz.isAgg342
 z25:=Tryz.sizeOf342
 v25:=Tryz.zeroValue342
 t39:=Tryz.underlying194
 a39:=Tryz.isAgg194
 z39:=Tryz.sizeOf194
 v39:=Tryz.zeroValue194
 t45:=Tryz.underlying258
 a45:=Tryz.isAgg258
 z45:=Tryz.sizeOf258
 v45:=Tryz.zeroValue258
 t46:=Tryz.underlying259
 a46:=Tryz.isAgg259
 z46:=Tryz.sizeOf259
 v46:=Tryz.zeroValue259
 t50:=Tryz.underlying264
 a50:=Tryz.isAgg264
 z50:=Tryz.sizeOf264
 v50:=Tryz.zeroValue264
 t53:=Tryz.underlying267
 a53:=Tryz.isAgg267
 z53:=Tryz.sizeOf267
 v53:=Tryz.zeroValue267
 t55:=Tryz.underlying269
 a55:=Tryz.isAgg269
 z55:=Tryz.sizeOf269
 v55:=Tryz.zeroValue269
 t66:=Tryz.underlying306
 a66:=Tryz.isAgg306
 z66:=Tryz.sizeOf306
 v66:=Tryz.zeroValue306
 t70:=Tryz.underlying310
 a70:=Tryz.isAgg310
 z70:=Tryz.sizeOf310
 v70:=Tryz.zeroValue310
 t76:=Tryz.underlying329
 a76:=Tryz.isAgg329
 z76:=Tryz.sizeOf329
 v76:=Tryz.zeroValue329
 t77:=Tryz.underlying125
 a77:=Tryz.isAgg125
 z77:=Tryz.sizeOf125
 v77:=Tryz.zeroValue125
def Uu:Go.Shelf.Ren:=⟨fun|35=>360|n=>n,fun|0=>0|3=>3|4=>4|22=>25|23=>24|n=>n,fun n=>n⟩
theorem acQ:SlLaysE0.n35 prog Uu where
 mixed:=by kernel_rfl
 f35:=⟨"slices.Reverse[[]loop.example/g00811/impl.Vec,loop.example/g00811/impl.Vec]",ae,func360.trans (congrArg some ai)⟩
 t0:=Tryz.underlying0
 a0:=Tryz.isAgg0
 z0:=Tryz.sizeOf0
 v0:=Tryz.zeroValue0
 t3:=Tryz.underlying3
 a3:=Tryz.isAgg3
 z3:=Tryz.sizeOf3
 v3:=Tryz.zeroValue3
 t4:=Tryz.underlying4
 a4:=Tryz.isAgg4
 z4:=Tryz.sizeOf4
 v4:=Tryz.zeroValue4
 t22:=Tryz.underlying25
 a22:=Tryz.isAgg25
 z22:=Tryz.sizeOf25
 v22:=Tryz.zeroValue25
end DW

namespace DW
open Go.RowKit Go.Sort Go.Shelf
abbrev OV:={ v:DV // bm v=true }
instance:Inhabited OV:=⟨⟨(0,0),ae⟩⟩
def KG (x:OV):List Value:=bS x.1
def N4 (x y:OV):Int:=Kf x.1 y.1
theorem CM (a b:DV) (ha:bm a=true) (hb:bm b=true) (W:World):Calls prog 357 #[.agg #[.int .i64 a.1,.int .i64 a.2],.agg #[.int .i64 b.1,.int .i64 b.2]] W fun e w'=>e=.returned (.int .i64 (Kf a b))/\∃q os',w'=grow (W.drewN q) os':=by
 obtain⟨a1,a2⟩:=a
 obtain⟨b1,b2⟩:=b
 obtain⟨p1,p2,p3,p4⟩:=eB ha
 obtain⟨q1,q2,q3,q4⟩:=eB hb
 simp only at p1 p2 p3 p4 q1 q2 q3 q4
 clear ha hb
 unfold Kf
 by_cases h:a1=b1
 ·subst h
  simp only[if_true]
  go_enter func357,ntmps357
  go_wp2
  go_ret
  exact⟨rfl,0,_,by rw[alloc_eq_grow,alloc_eq_grow,grow_grow]; rfl⟩
 ·simp only[h,if_false]
  go_enter func357,ntmps357
  go_wp2
  go_ret
  exact⟨rfl,0,_,by rw[alloc_eq_grow,alloc_eq_grow,grow_grow]; rfl⟩
theorem XQ (blk off size:Nat) (w:World):CmpLays prog 357 #[] KG 2 N4 blk off size w :=
 fun _ _ _ _ x y=>CM x.1 y.1 x.2 y.2 _
theorem Jc (d:List OV):flatK KG 2 d.toArray=flatK bS 2 (d.map Subtype.val).toArray:=by
 refine ext_get! ah fun t ht=>?_
 have ht':t < d.length * 2:=by simpa using ht
 rw[get_flatK _ _ _ t (by simpa using ht'),get_flatK _ _ _ t (by simpa using ht'),getElem!_pos d.toArray (t / 2) (by simp; omega),getElem!_pos (d.map Subtype.val).toArray (t / 2) (by simp; omega),getElem_toArray,getElem_toArray,getElem_map]
 rfl
theorem ac5:SWO (ltOf N4) where
 irrefl x:=by
  have:=l4 x.1 x.1
  show decide (Kf x.1 x.1 < 0)=false
  rw[decide_eq_false_iff_not,this]
  exact eD _
 trans x y z h1 h2:=by
  have h1:=(l4 x.1 y.1).1 (of_decide_eq_true h1)
  have h2:=(l4 y.1 z.1).1 (of_decide_eq_true h2)
  exact aj ((l4 x.1 z.1).2 (kM h1 h2))
 ntrans x y z h1 h2:=by
  have h1:=fun h=>of_decide_eq_false h1 ((l4 x.1 y.1).2 h)
  have h2:=fun h=>of_decide_eq_false h2 ((l4 y.1 z.1).2 h)
  refine ak fun h=>?_
  have h:=(l4 x.1 z.1).1 h
  rcases mT x.1 y.1 with k|k|k
  ·exact h1 k
  ·exact h2 (k ▸ h)
  ·exact h2 (kM k h)
theorem ac4 (x y:OV) (h1:(ltOf N4) x y=false) (h2:(ltOf N4) y x=false):x=y:=by
 have h1:=fun h=>of_decide_eq_false h1 ((l4 x.1 y.1).2 h)
 have h2:=fun h=>of_decide_eq_false h2 ((l4 y.1 x.1).2 h)
 rcases mT x.1 y.1 with k|k|k
 ·exact (h1 k).elim
 ·exact Subtype.ext k
 ·exact (h2 k).elim
theorem exO:∀l:List DV,(∀v ∈ l,bm v=true)->∃d:List OV,d.map Subtype.val=l
 | [],_=>⟨[],rfl⟩
 | v :: l,h=>by
  obtain⟨d,hd⟩:=exO l fun x hx=>h x (mem_cons_of_mem _ hx)
  exact⟨⟨v,h v mem_cons_self⟩ :: d,by rw[map_cons,hd]⟩
theorem Yh (l:List DV) (hl:∀v ∈ l,bm v=true) (h0:0 < l.length) (hn:l.length<=1048576):kl prog 356 [.fn 357] 24 an l (l.mergeSort w9) false:=by
 obtain⟨d,rfl⟩:=exO l hl
 refine kl.of (enters_of func356 ai rfl) h0 false fun hI w g cap hg hc hcm hH=>?_
 have hH':HoldsK KG 2 w g 0 d.toArray:=by unfold HoldsK; rw[Jc]; exact hH
 have hdl:d.toArray.size=(d.map Subtype.val).length:=by simp
 have eg:∀args w,(callFunc 357 args).run prog w=.ok (.enter 357 args) w:=enters_of func357 ai rfl
 have hcon:=AnyQ.slices_SortFunc_total aby 2 Tryz.isAgg24 Tryz.sizeOf24 KG (fun _=>rfl) (fun x v hv=>by simp[KG,bS] at hv; rcases hv with rfl|rfl<;>rfl) N4 ac5 357 #[] g 0 cap d.toArray w eg (XQ g 0 _ w) hH' hg (by rw[hdl]; omega) ac4
 rw[hdl] at hcon
 have hms:((d.mergeSort fun x y=>!(ltOf N4) y x).map Subtype.val)=(d.map Subtype.val).mergeSort w9:=List.map_mergeSort fun a _ b _=>rfl
 refine Calls.mono hcon ?_
 rintro e w' ⟨rfl,n,os,rfl⟩
 refine⟨(d.map Subtype.val).mergeSort w9,n,os,rfl,fun _=>length_mergeSort _,length_mergeSort _,fun x hx=>.inl ((List.mergeSort_perm _ _).mem_iff.1 hx),(take_length ..).symm,le_refl _,?_⟩
 unfold sortWorldK putRowK
 rw[<-hms,<-Jc]
theorem OM (l:List DV) (h0:0 < l.length) (hn:l.length<=1048576):kl prog 360 [] 24 an l l.reverse false:=by
 refine kl.of (enters_of func360 ai rfl) h0 false fun hI w g cap hg hc hcm hH=>?_
 have hcon:=AnyQ.slices_Reverse acQ 2 Tryz.isAgg24 Tryz.sizeOf24 bS (fun _=>rfl) (fun x v hv=>by simp[bS] at hv; rcases hv with rfl|rfl<;>rfl) g 0 cap l.toArray w hH (by simp; omega)
 have hdl:l.toArray.size=l.length:=by simp
 rw[hdl] at hcon
 refine Calls.mono hcon ?_
 rintro e w' ⟨rfl,n,rfl⟩
 refine⟨l.reverse,n,#[],rfl,fun _=>length_reverse,length_reverse,fun x hx=>.inl (mem_reverse.1 hx),(take_length ..).symm,le_refl _,?_⟩
 unfold sortWorldK
 rw[grow_empty,List.reverse_toArray]
end DW

namespace DW
open Go.RowKit Go.Sort Go.Lib
theorem yj (y x:DV):∀l:List DV,eJ (l++[y,x])=eJ (l++[y])++(if y=x then [] else [x])
 | []=>by
  show (if y=x then eJ [x] else y :: eJ [x])=[y]++_
  by_cases h:y=x
  ·rw[if_pos h,if_pos h,h]; rfl
  ·rw[if_neg h,if_neg h]; rfl
 | [a]=>by
  show (if a=y then eJ [y,x] else a :: eJ [y,x])=(if a=y then eJ [y] else a :: eJ [y])++_
  have ih:=yj y x []
  simp only[List.nil_append] at ih
  by_cases h:a=y
  ·rw[if_pos h,if_pos h,ih]
  ·rw[if_neg h,if_neg h,ih]; rfl
 | a :: b :: l=>by
  show (if a=b then eJ (b :: (l++[y,x])) else a :: eJ (b :: (l++[y,x])))=(if a=b then eJ (b :: (l++[y])) else a :: eJ (b :: (l++[y])))++_
  have ih:=yj y x (b :: l)
  simp only[List.cons_append] at ih
  by_cases h:a=b
  ·rw[if_pos h,if_pos h,ih]
  ·rw[if_neg h,if_neg h,ih]; rfl
theorem H6 (l:List DV):∀m,m<=l.length->compactUpTo l.toArray m=eJ (l.take m)
 | 0,_=>rfl
 | 1,h=>by
  rw[compactUpTo_succ,keeps_lt_one _ 0 ae,if_pos rfl]
  have e:l.take 1=[l[0]'J]:=by rw[take_add_one,getElem?_eq_getElem J]; rfl
  rw[e,getElem!_pos l.toArray 0 (by simp; omega)]
  rfl
 | m+2,h=>by
  have ih:=H6 l (m+1) J
  have e1:l.take (m+1)=l.take m++[l[m]'J]:=by rw[take_add_one,getElem?_eq_getElem J]; rfl
  have e2:l.take (m+2)=l.take m++[l[m]'J,l[m+1]'J]:=by
   rw[take_add_one,getElem?_eq_getElem J,e1,append_assoc]; rfl
  rw[compactUpTo_succ,ih,e2,yj,e1]
  have g1:l.toArray[m+1]! = l[m+1]'J:=by rw[getElem!_pos l.toArray (m+1) (by simp; omega)]; rfl
  have g0:l.toArray[m+1 - 1]! = l[m]'J:=by rw[Nat.add_sub_cancel,getElem!_pos l.toArray m (by simp; omega)]; rfl
  by_cases h2:l[m]'J=l[m+1]'J
  ·rw[keeps_neg J (by rw[g1,g0,h2]),if_pos h2]; rfl
  ·rw[keeps_pos (by rw[g1,g0]; exact fun h=>h2 h.symm),if_neg h2,if_pos rfl,g1]
theorem Yx (l:List DV):compactUpTo l.toArray l.length=eJ l:=by
 rw[H6 l _ (le_refl _),take_length]
theorem KY (d:Array DV) {i:Nat} (hi:i < d.size) (x:DV):setMany (flatK bS 2 d) (i * 2) (bS x)=flatK bS 2 (d.setIfInBounds i x):=by
 refine ext_get! ah fun t ht=>?_
 have ht':t < d.size * 2:=by simpa using ht
 rw[get_setMany _ _ _ t (by simpa using ht'),get_flatK _ _ _ t ht',get_flatK _ _ _ t (by simpa using ht')]
 show (if i * 2<=t/\t < i * 2+2 then _ else _)=_
 by_cases h:t / 2=i
 ·rw[if_pos ⟨J,J⟩]
  subst h
  rw[getElem!_set_same d _ x hi,show t - t / 2 * 2=t % 2 from J]
 ·rw[if_neg J,getElem!_set_other d i _ x h]
theorem Jv (d:Array DV) {k:Nat} (hk:k<=d.size) (r:List DV) (hr:r.length=k) (hlow:∀j,j < k->r[j]? = some d[j]!) :
  setMany (flatK bS 2 d) (k * 2) (replicate ((d.size - k) * 2) (.int .i64 0))=flatK bS 2 (r++replicate (d.size - k) (0,0)).toArray:=by
 have hsz:(r++replicate (d.size - k) ((0:Int),(0:Int))).toArray.size=d.size:=by simp[hr]; omega
 refine ext_get! (by rw[size_setMany,size_flatK,size_flatK,hsz]) fun t ht=>?_
 have ht':t < d.size * 2:=by simpa using ht
 rw[get_setMany _ _ _ t (by simpa using ht'),get_flatK _ _ _ t ht',get_flatK _ _ _ t (by rw[hsz]; exact ht'),length_replicate]
 by_cases h:t / 2 < k
 ·rw[if_neg J]
  have h1:=hlow _ h
  have h2:(r++replicate (d.size - k) ((0:Int),(0:Int))).toArray[t / 2]! = d[t / 2]!:=by
   rw[getElem!_pos _ _ (by rw[hsz]; omega)]
   rw[getElem_toArray,List.getElem_append_left J]
   rw[getElem?_eq_getElem J] at h1
   injection h1
  rw[h2]
 ·rw[if_pos ⟨J,J⟩]
  have h2:(r++replicate (d.size - k) ((0:Int),(0:Int))).toArray[t / 2]! = (0,0):=by
   rw[getElem!_pos _ _ (by rw[hsz]; omega)]
   rw[getElem_toArray,List.getElem_append_right J,getElem_replicate]
  rw[h2,getElem!_pos _ _ (by simp; omega),getElem_replicate]
  have h3:t % 2=0\/t % 2=1:=J
  rcases h3 with h3|h3<;>rw[h3]<;>rfl
end DW

namespace DW
open Go.RowKit Go.Sort Go.Lib
theorem UB:uW prog 24=true:=by kernel_rfl
theorem Gl (w:World) (ty:TypeId) (b o n c:Nat) (hn:0 < n)
  (hc:∀j,j < n * 2->(w.cell? ⟨b,o+j,none⟩).isSome=true) (hf:∀j,j < n * 2->w.frozen? ⟨b,o+j,none⟩=false) :
  (Builtin.clear_ #[25] ty #[.slice (some ⟨b,o,none⟩) n c]).run prog w=.ok (.tuple #[]) (w.setCells b o (replicate (n * 2) (.int .i64 0))):=by
 have hzc:(Builtin.zeroCells (Value.agg #[.int .i64 0,.int .i64 0]).cells n).toList=replicate (n * 2) (.int .i64 0):=by
  apply List.ext_getElem
  ·simp[Builtin.zeroCells,Value.cells]
  ·intro i h1 h2
   simp only[Builtin.zeroCells,Value.cells,Array.toList_map,Array.toList_range,getElem_map,getElem_range,getElem_replicate]
   have:i % 2=0\/i % 2=1:=J
   show (#[Value.int .i64 0,Value.int .i64 0])[i % 2]! = _
   rcases this with h|h<;>rw[h]<;>rfl
 have hst:=run_storeCells_cells (P:=prog) b o (replicate (n * 2) (.int .i64 0)) 0 w (by simpa using hc) (by simpa using hf) (by intro v hv'; rw[List.eq_of_mem_replicate hv']; rfl)
 simp only[add_zero] at hst
 obtain⟨m,rfl⟩:∃m,n=m+1:=⟨n - 1,J⟩
 have hz:=Tryz.zeroValue24
 have hu:=Tryz.underlying25
 simp[Builtin.clear_,run_underlying hu,hz,hzc,hst]
theorem GB {w wr:World} {n blk off:Nat} {dk:Array DV} {i:Nat} (hi:i < dk.size) (hwr:wr=putRowK bS 2 (Sort.ahead w n) blk off dk) (a b:Int) :
  ((wr.setCell ⟨blk,off+i * 2,none⟩ (.int .i64 a)).setCell ⟨blk,off+i * 2+1,none⟩ (.int .i64 b)).drew=putRowK bS 2 (Sort.ahead w (n+1)) blk off (dk.setIfInBounds i (a,b)):=by
 subst hwr
 have h:=setCells_putRow (Sort.ahead w n) blk off (bS (a,b)) (i * 2) (flatK bS 2 dk) (by rw[size_flatK]; show i * 2+2<=_; omega)
 rw[KY dk hi (a,b)] at h
 have h2:((putRowK bS 2 (Sort.ahead w n) blk off dk).setCell ⟨blk,off+i * 2,none⟩ (.int .i64 a)).setCell ⟨blk,off+i * 2+1,none⟩ (.int .i64 b)=putRow id (Sort.ahead w n) blk off (flatK bS 2 (dk.setIfInBounds i (a,b))):=h
 rw[h2,putRow_drew,ahead_drew]
 rfl
theorem KL (blk off cap:Nat) (d:Array DV) (w:World) (hH:HoldsK bS 2 w blk off d) (hsz:d.size<=9223372036854775807) (hcap:d.size<=cap) :
  Calls prog 358 #[.slice (some ⟨blk,off,none⟩) d.size cap] w fun e w'=>e=.returned (.slice (some ⟨blk,off,none⟩) (compactUpTo d d.size).length cap)/\∃q,w'=putRowK bS 2 (Sort.ahead w q) blk off (compactUpTo d d.size++replicate (d.size - (compactUpTo d d.size).length) (0,0)).toArray:=by
 have heq':∀(a b c d:Int) (w:World),Sem.run prog (binOp .eql 24 (.agg #[.int .i64 a,.int .i64 b]) (.agg #[.int .i64 c,.int .i64 d])) w=.ok (.bool (decide (a=c) && decide (b=d))) w:=fun a b c d w=>by rw[run_eql_struct,B4 UB]; rfl
 have hne':∀(a b c d:Int) (w:World),Sem.run prog (binOp .neq 24 (.agg #[.int .i64 a,.int .i64 b]) (.agg #[.int .i64 c,.int .i64 d])) w=.ok (.bool (!(decide (a=c) && decide (b=d)))) w:=fun a b c d w=>by rw[run_neq_struct,B4 UB]; rfl
 have hgd':∀(op:BinOp) (x y:Operand) (a b c d:Int) (w:World),Sem.run prog (eqGuard op 24 x y (.agg #[.int .i64 a,.int .i64 b]) (.agg #[.int .i64 c,.int .i64 d])) w=.ok () w:=fun op x y a b c d w=>run_eqGuard_agg w op _ x y _ _ (MN UB)
 have same:∀q,(∀j,j < d.size->keeps d j=true)->(compactUpTo d d.size).length=d.size/\w.drewN q=putRowK bS 2 (Sort.ahead w q) blk off (compactUpTo d d.size++replicate (d.size - (compactUpTo d d.size).length) (0,0)).toArray:=by
  intro q hall
  have e:compactUpTo d d.size=d.toList:=by rw[compactUpTo_all d _ hall,range_map_get]
  rw[e]
  refine⟨by simp,?_⟩
  simp only[length_toList,Nat.sub_self,List.replicate_zero,append_nil,Array.toArray_toList]
  exact (putRowK_self bS 2 (Sort.ahead w q) blk off d (holdsK_ahead bS 2 w q blk off d hH)).symm
 have HS:Aside (∀q,(∀j,j < d.size->keeps d j=true)->(compactUpTo d d.size).length=d.size/\w.drewN q=putRowK bS 2 (Sort.ahead w q) blk off (compactUpTo d d.size++replicate (d.size - (compactUpTo d d.size).length) (0,0)).toArray):=same
 clear same
 have mixed:Tryz.prog.follows .mixedOrders=true:=bA
 have encat:∀x:DV,(bS x)[0]! = .int .i64 x.1/\(bS x)[1]! = .int .i64 x.2:=fun x=>⟨rfl,rfl⟩
 by_cases h2:d.size < 2
 ·have HH:Aside (HoldsK bS 2 w blk off d):=hH
  clear hH
  go_enter func358,ntmps358
  go_wp2
  go_ret
  obtain⟨e1,e2⟩:=HS.out 0 (fun j hj=>keeps_lt_one d j J)
  exact⟨by rw[e1]; rfl,0,e2⟩
 ·go_enter func358,ntmps358
  go_wp2
  go_loopg [3] d.size (fun g s3 wr=>∃k q:Nat,1<=k/\k<=d.size/\d.size - k<=g/\s3=.int .i64 k/\wr=w.drewN q/\∀j,j < k->keeps d j=true)
  case atStart=>exact⟨1,0,le_refl _,J,J,rfl,rfl,keeps_lt_one d⟩
  case round =>
   obtain⟨k,q,hk1,hk,hg,rfl,rfl,hall⟩:=hrel
   by_cases hlt:k < d.size
   ·obtain⟨c1,f1⟩:=hH.cell hlt (c:=0) ae
    obtain⟨c1',f1'⟩:=hH.cell hlt (c:=1) ae
    obtain⟨c0,f0⟩:=hH.cell (i:=k - 1) J (c:=0) ae
    obtain⟨c0',f0'⟩:=hH.cell (i:=k - 1) J (c:=1) ae
    rw[(encat _).1] at c1 c0
    rw[(encat _).2] at c1' c0'
    rw[add_zero] at c1 c0 f1 f0
    have A:Aside (∀j,j < k->keeps d j=true):=hall
    have HH:Aside (HoldsK bS 2 w blk off d):=hH
    clear hall hH
    generalize hx:d[k]! = x at c1 c1'
    generalize hy:d[k - 1]! = y at c0 c0'
    have B:Aside (d[k]! = x/\d[k - 1]! = y):=⟨hx,hy⟩
    clear hx hy
    obtain⟨x1,x2⟩:=x
    obtain⟨y1,y2⟩:=y
    simp only at c1 c1' c0 c0'
    have hbe:(decide (x1=y1) && decide (x2=y2))=decide ((x1,x2)=(y1,y2)):=by
     by_cases e1:x1=y1<;>by_cases e2:x2=y2<;>simp[e1,e2]
    by_cases hdup:((x1,x2):DV)=(y1,y2)
    ·injection hdup with h1 h2'
     subst h1 h2'
     go_wp2_with fail
     go_region_o
     go_wp2
     clear c0 c1 c0' c1' f0 f1 f0' f1'
     go_loopg [3,5] d.size (fun g s3 s5 wr=>∃(kk k2 q2:Nat) (dk:Array DV),s3=.int .i64 kk/\s5=.int .i64 k2/\1<=k2/\k+k2<=d.size/\d.size - (k+k2)<=g/\wr=putRowK bS 2 (Sort.ahead w q2) blk off dk/\CompInv d (k+k2) kk dk)
     case atStart=>exact⟨k,1,q+1,d,rfl,rfl,le_refl _,J,J,(putRowK_self bS 2 (Sort.ahead w (q+1)) blk off d (holdsK_ahead bS 2 w (q+1) blk off d HH.out)).symm,CompInv.start A.out (keeps_neg J (by rw[B.out.1,B.out.2]))⟩
     case round =>
      obtain⟨kk,k2,q2,dk,rfl,rfl,h1,hle,hg2,hwr,hI⟩:=hrel
      have hkk:=hI.lt
      have hds:=hI.size
      have hHk:HoldsK bS 2 wr blk off dk:=by rw[hwr]; exact holdsK_putRowK bS 2 _ blk off d dk (holdsK_ahead bS 2 w q2 blk off d HH.out) hds
      have W2:Aside (wr=putRowK bS 2 (Sort.ahead w q2) blk off dk):=hwr
      have I2:Aside (CompInv d (k+k2) kk dk):=hI
      clear hwr
      by_cases hlt2:k+k2 < d.size
      ·obtain⟨cm,_⟩:=hHk.cell (i:=k+k2) J (c:=0) ae
       obtain⟨cm',_⟩:=hHk.cell (i:=k+k2) J (c:=1) ae
       obtain⟨cp,_⟩:=hHk.cell (i:=k+k2 - 1) J (c:=0) ae
       obtain⟨cp',_⟩:=hHk.cell (i:=k+k2 - 1) J (c:=1) ae
       obtain⟨ck,fk⟩:=hHk.cell (i:=kk) J (c:=0) ae
       obtain⟨ck',fk'⟩:=hHk.cell (i:=kk) J (c:=1) ae
       rw[hI.high (k+k2) J,(encat _).1,show off+(k+k2) * 2+0=off+k * 2+k2 * 2 from J] at cm
       rw[hI.high (k+k2) J,(encat _).2,show off+(k+k2) * 2+1=off+k * 2+k2 * 2+1 from J] at cm'
       rw[hI.high (k+k2 - 1) J,(encat _).1,show off+(k+k2 - 1) * 2+0=off+k * 2+(k2 - 1) * 2 from J] at cp
       rw[hI.high (k+k2 - 1) J,(encat _).2,show off+(k+k2 - 1) * 2+1=off+k * 2+(k2 - 1) * 2+1 from J] at cp'
       rw[(encat _).1,add_zero] at ck
       rw[(encat _).2] at ck'
       rw[add_zero] at fk
       clear hHk hI
       generalize hu:d[k+k2]! = u at cm cm'
       generalize hv:d[k+k2 - 1]! = v at cp cp'
       generalize dk[kk]! = pM at ck ck'
       have C:Aside (d[k+k2]! = u/\d[k+k2 - 1]! = v):=⟨hu,hv⟩
       clear hu hv
       obtain⟨u1,u2⟩:=u
       obtain⟨v1,v2⟩:=v
       obtain⟨o1,o2⟩:=pM
       simp only at cm cm' cp cp' ck ck'
       by_cases huv:((u1,u2):DV)=(v1,v2)
       ·injection huv with e1 e2
        subst e1 e2
        go_wp2_with fail
        go_region_o
        go_wp2
        go_roundg (d.size - (k+(k2+1)))
        case measure=>omega
        case rel=>exact⟨kk,k2+1,q2+1,dk,rfl,by go_num,J,J,le_refl _,by rw[W2.out]; rfl,I2.out.skip (keeps_neg J (by rw[C.out.1,C.out.2]))⟩
       ·have huv2:¬ (u1=v1/\u2=v2):=fun h=>huv (by rw[h.1,h.2])
        have hbe2:(decide (u1=v1) && decide (u2=v2))=false:=by
         by_cases e1:u1=v1<;>by_cases e2:u2=v2<;>simp[e1,e2]<;>exact huv2 ⟨e1,e2⟩
        have HU:Aside (¬ ((u1,u2):DV)=(v1,v2)):=huv
        clear huv huv2
        go_wp2_with fail
        go_region_o
        go_wp2
        go_roundg (d.size - (k+(k2+1)))
        case measure=>omega
        case rel=>exact⟨kk+1,k2+1,q2+1,dk.setIfInBounds kk (u1,u2),by go_num,by go_num,J,J,le_refl _,GB J W2.out u1 u2,by have:=I2.out.keep hlt2 (keeps_pos (by rw[C.out.1,C.out.2]; exact HU.out)); rwa [C.out.1] at this⟩
      ·have hend:k+k2=d.size:=J
       have hcl:∀ty,(Builtin.clear_ #[25] ty #[.slice (some ⟨blk,off+kk * 2,none⟩) (d.size - kk) (cap - kk)]).run prog wr=.ok (.tuple #[]) (wr.setCells blk (off+kk * 2) (replicate ((d.size - kk) * 2) (.int .i64 0))) :=
        fun ty=>Gl wr ty blk (off+kk * 2) _ _ J (fun j hj=>by
         have h:=(hHk (kk * 2+j) (by simp[hds]; omega)).1
         rw[show off+kk * 2+j=off+(kk * 2+j) from J,h]; rfl) (fun j hj=>by
         have h:=(hHk (kk * 2+j) (by simp[hds]; omega)).2
         rw[show off+kk * 2+j=off+(kk * 2+j) from J]; exact h)
       clear hHk hI
       go_wp2
       go_ret
       have hI:=I2.out
       rw[hend] at hI
       refine⟨by rw[hI.len]; rfl,q2,?_⟩
       have hz:=Jv dk (k:=kk) J (compactUpTo d d.size) hI.len hI.low
       rw[hI.len,W2.out]
       unfold putRowK
       rw[setCells_putRow _ _ _ _ _ _ (by rw[size_flatK,length_replicate]; omega),show d.size - kk=dk.size - kk by rw[hds],hz]
    ·have hbe2:(decide (x1=y1) && decide (x2=y2))=false:=by rw[hbe]; exact ak hdup
     have HD:Aside (¬ ((x1,x2):DV)=(y1,y2)):=hdup
     clear hdup hbe
     go_wp2_with fail
     go_region_o
     go_wp2
     go_roundg (d.size - (k+1))
     case measure=>omega
     case rel =>
      refine⟨k+1,q+1,J,J,le_refl _,by go_num,rfl,fun j hj=>?_⟩
      by_cases e:j=k
      ·subst e
       exact keeps_pos (by rw[B.out.1,B.out.2]; exact HD.out)
      ·exact A.out j J
   ·have:k=d.size:=J
    subst this
    have HH:Aside (HoldsK bS 2 w blk off d):=hH
    clear hH
    go_wp2
    go_ret
    obtain⟨e1,e2⟩:=HS.out q hall
    exact⟨by rw[e1]; rfl,q,e2⟩
theorem OR (l:List DV) (h0:0 < l.length) (hn:l.length<=1048576):kl prog 358 [] 24 an l (eJ l) true:=by
 refine kl.of (enters_of func358 ai rfl) h0 true fun hI w g cap hg hc hcm hH=>?_
 have hcon:=KL g 0 cap l.toArray w hH (by simp; omega) (by simpa using hc)
 have hdl:l.toArray.size=l.length:=by simp
 rw[hdl,Yx] at hcon
 refine Calls.mono hcon ?_
 rintro e w' ⟨rfl,n,rfl⟩
 have hcl:=AM (l:=l)
 refine⟨eJ l++replicate (l.length - (eJ l).length) (0,0),n,#[],rfl,(fun h=>by cases h),?_,fun x hx=>?_,?_,?_,?_⟩
 ·rw[length_append,length_replicate]; omega
 ·rcases mem_append.1 hx with h|h
  ·exact .inl (uT.1 h)
  ·exact .inr (List.eq_of_mem_replicate h)
 ·rw[List.take_left']; rfl
 ·rw[length_append]; omega
 ·unfold sortWorldK
  rw[grow_empty]
theorem Rc (l:List DV) (h0:0 < l.length) (hn:l.length<=1048576):xt prog 114 [⟨.slice an,l⟩] 24 an l:=by
 refine pz bK bA func114 rfl rfl _ ntmps114 _ results114 ah fun hwf=>?_
 refine Nz ?_
 refine kT.CA (by intro e; rw[e] at h0; simp at h0) ?_
 refine Sz ?_
 exact⟨0,1,rfl,rfl⟩
theorem RX (l:List DV) (hl:∀v ∈ l,bm v=true) (h0:0 < l.length) (hn:l.length<=64):Fn prog 314 [⟨.slice an,l⟩] true [⟨.slice an,bT l⟩]:=by
 have c1:=nQ l
 rw[xU hl] at c1
 have d0:=ak (p:=(l.length:Int) > 64) J
 have c2:=Rc l h0 J
 have c3:=Yh l hl h0 J
 have hml:(l.mergeSort w9).length=l.length:=length_mergeSort _
 have c4:=OR (l.mergeSort w9) J J
 have hsl:=Hk l
 have hsm:∀v ∈ fa l,bm v=true:=fun v hv=>hl v (ja.1 hv)
 have hcs:eJ (l.mergeSort w9)=fa l:=rfl
 rw[hcs] at c4
 refine fe func314 ntmps314 results314 fun hwf=>?_
 refine Tz d0 ?_
 refine cw c1 ?_
 refine Sz ?_
 refine aO.g (c2) ?_
 refine Sz ?_
 refine aO.r (k:=0) (ver:=0) (o:=true) (c3) ?_
 refine Sz ?_
 refine aO.r (k:=0) (ver:=0) (o:=true) (c4) ?_
 refine Nz ?_
 refine ao ?_ ?_<;>intro hA
 ·have hh:bT l=fa l:=by unfold bT; rw[if_pos J]
  rw[hh]
  try simp (maxSteps:=9^9) only[go_sem]
 ·have hh:bT l=py (fa l)++py (fa l).reverse:=by unfold bT; rw[if_neg J]
  rw[hh]
  generalize fa l=s at hsl hsm hA ⊢
  have c5:=Hh s hsm J J
  have c6:=OM s J J
  have hrl:s.reverse.length=s.length:=length_reverse
  have c7:=Hh s.reverse (fun v hv=>hsm v (mem_reverse.1 hv)) J J
  have q1:=yC s
  have q2:=yC s.reverse
  have q3:(py s).length<=s.length:=by unfold py; rw[length_dropLast,length_reverse]; omega
  have q4:(py s.reverse).length<=s.length:=by unfold py; rw[length_dropLast,length_reverse]; omega
  refine Sz ?_
  refine aO.g (c5) ?_
  refine Sz ?_
  refine aO.r (k:=0) (ver:=1) (o:=true) (c6) ?_
  refine Sz ?_
  refine aO.g (c7) ?_
  refine Sz ?_
  omega
def aZ (u v:DV):Int:=u.1 * v.2 - u.2 * v.1
def dt (u v:DV):Int:=u.1 * v.1+u.2 * v.2
def aW (a b:DV):DV:=(a.1 - b.1,a.2 - b.2)
def Rt (d:DV):Prop:=0 < d.1\/d.1=0/\0 < d.2
theorem pr {a b:DV} (h:cg a b):Rt (aW b a):=by unfold cg at h; unfold Rt aW; simp only; omega
theorem xw {u v w:DV} (hu:Rt u) (hv:Rt v) (hw:Rt w) (h1:0<=aZ u v) (h2:0<=aZ v w):0<=aZ u w:=by
 have key:v.1 * aZ u w=u.1 * aZ v w+w.1 * aZ u v:=by unfold aZ; grind
 have u1:0<=u.1:=by unfold Rt at hu; omega
 have w1:0<=w.1:=by unfold Rt at hw; omega
 rcases hv with hv|⟨hv,hv2⟩
 ·by_cases hc:0<=aZ u w
  ·exact hc
  ·have h3:=Int.mul_neg_of_pos_of_neg hv (show aZ u w < 0 from J)
   have h4:=mul_nonneg u1 h2
   have h5:=mul_nonneg w1 h1
   omega
 ·have e:aZ v w=-(v.2 * w.1):=by unfold aZ; rw[hv]; grind
  have hw0:w.1=0:=by
   by_cases hp:0 < w.1
   ·have:=Int.mul_pos hv2 hp
    omega
   ·omega
  have hw2:0 < w.2:=by unfold Rt at hw; omega
  have e2:aZ u w=u.1 * w.2:=by unfold aZ; rw[hw0]; grind
  rw[e2]
  exact mul_nonneg u1 (Int.le_of_lt hw2)
theorem uh (u v:DV):aZ u v=- aZ v u:=by unfold aZ; grind
theorem SG {u v w:DV} (hu:Rt u) (hv:Rt v) (hw:Rt w) (h1:0 < aZ u v) (h2:0<=aZ v w):0 < aZ u w:=by
 have h3:=xw hu hv hw (Int.le_of_lt h1) h2
 by_cases hc:aZ u w=0
 ·have h4:=xw hv hw hu h2 (by rw[uh]; omega)
  rw[uh] at h4
  omega
 ·omega
theorem aaN {u v w:DV} (hu:Rt u) (hv:Rt v) (hw:Rt w) (h1:0<=aZ u v) (h2:0 < aZ v w):0 < aZ u w:=by
 have h3:=xw hu hv hw h1 (Int.le_of_lt h2)
 by_cases hc:aZ u w=0
 ·have h4:=xw hw hu hv (by rw[uh]; omega) h1
  rw[uh] at h4
  omega
 ·omega
theorem kr (a b c:DV):bQ a b c=aZ (aW b a) (aW c a):=rfl
theorem J2 (a b c:DV):bQ a b c=aZ (aW b a) (aW c b):=by unfold bQ aZ aW; grind
theorem NP (a b x y:DV):bQ a b y=aZ (aW b a) (aW y x)+bQ a b x:=by unfold bQ aZ aW; grind
theorem BO (a b:DV):bQ a b a=0:=by unfold bQ; grind
theorem aar (a b:DV):bQ a b b=0:=by unfold bQ; grind
def jd:List DV->List (DV × DV)
 | b :: a :: l=>(a,b) :: jd (a :: l)
 | _=>[]
def dir (e:DV × DV):DV:=aW e.2 e.1
theorem cJ {v b:DV} {l:List DV}:jd (v :: b :: l)=(b,v) :: jd (b :: l):=rfl
theorem Du:∀{r:List DV} {e:DV × DV},e ∈ jd r->e.1 ∈ r/\e.2 ∈ r
 | [],e,h=>by simp[jd] at h
 | [a],e,h=>by simp[jd] at h
 | b :: a :: l,e,h=>by
  rw[cJ] at h
  rcases mem_cons.1 h with rfl|h
  ·exact⟨by simp,by simp⟩
  ·obtain⟨h1,h2⟩:=Du h
   exact⟨mem_cons_of_mem _ h1,mem_cons_of_mem _ h2⟩
structure nN (P:DV->Prop) (r:List DV):Prop where
 desc:r.Pairwise (fun x y=>cg y x)
 Nv:(jd r).Pairwise (fun e f=>0 < aZ (dir f) (dir e))
 low:∀e ∈ jd r,∀p,P p->0<=bQ e.1 e.2 p
 str:∀e ∈ jd r,∀x ∈ r,x=e.1\/x=e.2\/0 < bQ e.1 e.2 x
 sub:∀x ∈ r,P x
theorem xB:∀{r:List DV} {e:DV × DV},r.Pairwise (fun x y=>cg y x)->e ∈ jd r->cg e.1 e.2
 | [],e,_,h=>by simp[jd] at h
 | [a],e,_,h=>by simp[jd] at h
 | b :: a :: l,e,hd,h=>by
  rw[cJ] at h
  rw[pairwise_cons] at hd
  rcases mem_cons.1 h with rfl|h
  ·exact hd.1 a ah
  ·exact xB hd.2 h
theorem nN.tail {P:DV->Prop} {b:DV} {l:List DV} (h:nN P (b :: l)):nN P l:=by
 have hd:=(pairwise_cons.1 h.desc).2
 cases l with
 | nil=>exact⟨Pairwise.nil,Pairwise.nil,(fun e he=>by simp[jd] at he),(fun e he=>by simp[jd] at he),(fun x hx=>by simp at hx)⟩
 | cons a l =>
  have hc:=h.Nv
  rw[cJ] at hc
  exact⟨hd,(pairwise_cons.1 hc).2,fun e he=>h.low e (by rw[cJ]; exact mem_cons_of_mem _ he),fun e he x hx=>h.str e (by rw[cJ]; exact mem_cons_of_mem _ he) x (mem_cons_of_mem _ hx),fun x hx=>h.sub x (mem_cons_of_mem _ hx)⟩
structure SA (P:DV->Prop) (v:DV) (r:List DV) (b:DV) (l:List DV):Prop where
 ok:nN P (b :: l)
 last:∀x,r.getLast? = some x->(b :: l).getLast? = some x
 stop:∀a l',l=a :: l'->0 < bQ a b v
 gone:(∃l',r=b :: l')\/∃c,cg b c/\P c/\bQ b c v<=0/\∀p,P p->0<=bQ b c p
theorem LJ {P:DV->Prop} {v:DV}:∀{r:List DV} {b0:DV} {l0:List DV},r=b0 :: l0->nN P r->∃b l,fN v r=b :: l/\SA P v r b l
 | [],_,_,h,_=>by cases h
 | [a],_,_,_,hc=>⟨a,[],rfl,hc,fun x hx=>hx,(fun a l' h=>by cases h),.inl ⟨[],rfl⟩⟩
 | b :: a :: l,_,_,_,hc=>by
  by_cases ht:bQ a b v<=0
  ·obtain⟨b',l',e,hp⟩:=LJ (v:=v) (r:=a :: l) rfl hc.tail
   refine⟨b',l',by rw[fN,if_pos ht]; exact e,hp.ok,fun x hx=>hp.last x (by rw[List.getLast?_cons_cons] at hx; exact hx),hp.stop,.inr ?_⟩
   rcases hp.gone with ⟨l2,h2⟩|h2
   ·injection h2 with h2 _
    subst h2
    exact⟨b,(pairwise_cons.1 hc.desc).1 a ah,hc.sub b ah,ht,fun p hp=>hc.low (a,b) (by rw[cJ]; simp) p hp⟩
   ·exact h2
  ·exact⟨b,a :: l,by rw[fN,if_neg ht],hc,fun x hx=>hx,(fun a' l' h=>by injection h with h _; subst h; omega),.inl ⟨a :: l,rfl⟩⟩
theorem Zn {P:DV->Prop} {v b m:DV} {r l:List DV} (hp:SA P v r b l) (hv:∀p,P p->cg p v) (hm:r.getLast? = some m) (hmin:∀p,P p->p=m\/cg m p) (htop:∀t l',r=t :: l'->∀p,P p->p=t\/cg p t) :
  nN (fun p=>p=v\/P p) (v :: b :: l):=by
 have hb:P b:=hp.ok.sub b ah
 have hbv:=hv b hb
 have rv:=pr hbv
 have hml:=hp.last m hm
 have left:∀p,P p->cg p b->0 < bQ b v p:=by
  intro p hP hlt
  cases l with
  | nil =>
   simp at hml
   subst hml
   rcases hmin p hP with rfl|h
   ·exact absurd hlt (eD _)
   ·exact absurd hlt (sU h)
  | cons a l' =>
   have h1:=hp.stop a l' rfl
   have h2:=hp.ok.low (a,b) (by rw[cJ]; simp) p hP
   have hab:=(pairwise_cons.1 hp.ok.desc).1 a ah
   rw[J2] at h1 h2
   have h3:0<=aZ (aW b p) (aW b a):=by
    have:aZ (aW b p) (aW b a)=aZ (aW b a) (aW p b):=by unfold aZ aW; grind
    rw[this]; exact h2
   have h4:=aaN (pr hlt) (pr hab) rv h3 h1
   have:bQ b v p=aZ (aW b p) (aW v b):=by unfold bQ aZ aW; grind
   rw[this]; exact h4
 have all:∀p,P p->0<=bQ b v p:=by
  intro p hP
  rcases mT p b with h|h|h
  ·exact Int.le_of_lt (left p hP h)
  ·subst h; rw[BO]; exact Int.le_refl _
  ·rcases hp.gone with ⟨l',hr⟩|⟨c,h1,h2,h3,h4⟩
   ·rcases htop b l' hr p hP with rfl|h5
    ·exact absurd h (eD _)
    ·exact absurd h (sU h5)
   ·have h5:=h4 p hP
    rw[kr] at h3 h5
    rw[kr]
    exact xw rv (pr h1) (pr h) (by rw[uh]; omega) h5
 have bend:∀f ∈ jd (b :: l),0 < aZ (dir f) (aW v b):=by
  intro f hf
  cases l with
  | nil=>simp[jd] at hf
  | cons a l' =>
   have h1:=hp.stop a l' rfl
   rw[J2] at h1
   have hab:=(pairwise_cons.1 hp.ok.desc).1 a ah
   have hc:=hp.ok.Nv
   rw[cJ] at hc hf
   rcases mem_cons.1 hf with rfl|hf
   ·exact h1
   ·have h2:=(pairwise_cons.1 hc).1 f hf
    have h3:=xB (pairwise_cons.1 hp.ok.desc).2 hf
    exact SG (pr h3) (pr hab) rv h2 (Int.le_of_lt h1)
 have oldv:∀f ∈ jd (b :: l),0 < bQ f.1 f.2 v:=by
  intro f hf
  have h1:=bend f hf
  have h2:=hp.ok.low f hf b hb
  rw[NP f.1 f.2 b v]
  unfold dir at h1
  omega
 refine⟨pairwise_cons.2 ⟨fun x hx=>hv x (hp.ok.sub x hx),hp.ok.desc⟩,?_,?_,?_,?_⟩
 ·rw[cJ]
  exact pairwise_cons.2 ⟨fun f hf=>bend f hf,hp.ok.Nv⟩
 ·intro e he p hP
  rw[cJ] at he
  rcases mem_cons.1 he with rfl|he2
  ·rcases hP with rfl|hP
   ·show 0<=bQ b p p; rw[aar]; exact Int.le_refl _
   ·exact all p hP
  ·rcases hP with rfl|hP
   ·exact Int.le_of_lt (oldv e he2)
   ·exact hp.ok.low e he2 p hP
 ·intro e he x hx
  rw[cJ] at he
  rcases mem_cons.1 he with rfl|he2
  ·rcases mem_cons.1 hx with rfl|hx
   ·exact .inr (.inl rfl)
   ·rcases mem_cons.1 hx with rfl|hx
    ·exact .inl rfl
    ·exact .inr (.inr (left x (hp.ok.sub x (mem_cons_of_mem _ hx)) ((pairwise_cons.1 hp.ok.desc).1 x hx)))
  ·rcases mem_cons.1 hx with rfl|hx
   ·exact .inr (.inr (oldv e he2))
   ·exact hp.ok.str e he2 x hx
 ·intro x hx
  rcases mem_cons.1 hx with rfl|hx
  ·exact .inl rfl
  ·exact .inr (hp.ok.sub x hx)
theorem Kz:∀(n:Nat) {l:List DV},l.length=n+1->l.Pairwise cg →
  ∃t r,gJ l=t :: r/\(gJ l).getLast? = l.head?/\l.getLast? = some t/\nN (fun p=>p ∈ l) (gJ l)
 | 0,l,hl,hs=>by
  match l,hl with
  | [a],_=>exact⟨a,[],rfl,rfl,rfl,⟨List.pairwise_singleton _ _,Pairwise.nil,(fun e he=>by simp[gJ,fN,jd] at he),(fun e he=>by simp[gJ,fN,jd] at he),fun x hx=>hx⟩⟩
 | n+1,l,hl,hs=>by
  obtain⟨l',v,rfl⟩:∃l' v,l=l'++[v]:=⟨l.dropLast,l.getLast (by intro h; rw[h] at hl; simp at hl),(List.dropLast_concat_getLast _).symm⟩
  have hl':l'.length=n+1:=by simp at hl; omega
  rw[pairwise_append] at hs
  obtain⟨hs1,_,hs3⟩:=hs
  obtain⟨t,r,e1,e2,e3,hc⟩:=Kz n hl' hs1
  have hst:gJ (l'++[v])=v :: fN v (gJ l'):=by unfold gJ; rw[List.foldl_append]; rfl
  obtain⟨b,q,e4,hp⟩:=LJ (v:=v) e1 hc
  obtain⟨m,l2,rfl⟩:∃m l2,l'=m :: l2:=by
   cases l' with
   | nil=>simp at hl'
   | cons m l2=>exact⟨m,l2,rfl⟩
  have hlast:(gJ (m :: l2)).getLast? = some m:=e2
  have hpush:=Zn hp (fun p hpm=>hs3 p hpm v ah) hlast (fun p hpm=>by
   rcases mem_cons.1 hpm with h|h
   ·exact .inl h
   ·exact .inr ((pairwise_cons.1 hs1).1 p h)) (fun t' l3 ht p hpm=>by
   rw[e1] at ht
   injection ht with ht _
   subst ht
   have hgl:(m :: l2).getLast? = some t:=e3
   obtain⟨ys,hys⟩:=List.getLast?_eq_some_iff.1 hgl
   rw[hys] at hpm hs1
   rw[pairwise_append] at hs1
   rcases mem_append.1 hpm with h|h
   ·exact .inr (hs1.2.2 p h t ah)
   ·exact .inl (by simpa using h))
  refine⟨v,fN v (gJ (m :: l2)),hst,?_,List.getLast?_concat,?_⟩
  ·rw[hst,e4,List.getLast?_cons_cons,hp.last m hlast]; rfl
  ·rw[hst,e4]
   refine⟨hpush.desc,hpush.Nv,fun e he p hpm=>hpush.low e he p ?_,hpush.str,fun x hx=>?_⟩
   ·rcases mem_append.1 hpm with h|h
    ·exact .inr h
    ·exact .inl (by simpa using h)
   ·rcases hpush.sub x hx with rfl|h
    ·simp
    ·exact mem_append.2 (.inl h)
def cq (v:DV):DV:=(-v.1,-v.2)
theorem jh (v:DV):cq (cq v)=v:=by unfold cq; simp
theorem xG (a b c:DV):bQ (cq a) (cq b) (cq c)=bQ a b c:=by unfold bQ cq; grind
theorem Qg {a b:DV}:cg (cq a) (cq b) ↔ cg b a:=by unfold cg cq; simp only; omega
theorem LZ (v:DV):∀r:List DV,fN (cq v) (r.map cq)=(fN v r).map cq
 | []=>rfl
 | [a]=>rfl
 | b :: a :: l=>by
  have ih:=LZ v (a :: l)
  simp only[map_cons] at ih ⊢
  rw[fN,fN,xG]
  split
  ·exact ih
  ·rfl
theorem ZH (l:List DV):gJ (l.map cq)=(gJ l).map cq:=by
 unfold gJ
 have:∀(l s:List DV),(l.map cq).foldl (fun c v=>v :: fN v c) (s.map cq)=(l.foldl (fun c v=>v :: fN v c) s).map cq:=by
  intro l
  induction l with
  | nil=>intro s; rfl
  | cons a l ih =>
   intro s
   rw[map_cons,List.foldl_cons,List.foldl_cons,LZ]
   exact ih (a :: fN a s)
 exact this l []
def ngE (e:DV × DV):DV × DV:=(cq e.1,cq e.2)
theorem SO:∀r:List DV,jd (r.map cq)=(jd r).map ngE
 | []=>rfl
 | [a]=>rfl
 | b :: a :: l=>by
  have ih:=SO (a :: l)
  simp only[map_cons] at ih ⊢
  rw[cJ,cJ,ih]; rfl
theorem Pv {r:List DV} {e:DV × DV} (h:e ∈ jd r):ngE e ∈ jd (r.map cq):=by rw[SO]; exact mem_map_of_mem h
theorem RL (r:List DV):(r.map cq).map cq=r:=by
 rw[List.map_map,show (cq ∘ cq)=id from funext jh,List.map_id]
theorem Hc {P:DV->Prop} {x:DV}:∀{r:List DV},nN P r->x ∈ r->r.head? = some x\/r.getLast? = some x\/∃p q,(p,x) ∈ jd r/\(x,q) ∈ jd r/\0 < aZ (aW x p) (aW q x)
 | [],_,h=>by simp at h
 | [a],_,h=>by simp at h; subst h; exact .inl rfl
 | q :: y :: l,hc,h=>by
  rcases mem_cons.1 h with rfl|h
  ·exact .inl rfl
  ·rcases Hc hc.tail h with h1|h1|⟨p,q',h1,h2,h3⟩
   ·simp at h1
    subst h1
    cases l with
    | nil=>exact .inr (.inl rfl)
    | cons p l =>
     have hcv:=hc.Nv
     rw[cJ,cJ] at hcv
     refine .inr (.inr ⟨p,q,by rw[cJ,cJ]; simp,by rw[cJ]; simp,?_⟩)
     exact (pairwise_cons.1 hcv).1 (p,y) ah
   ·exact .inr (.inl (by rw[List.getLast?_cons_cons]; exact h1))
   ·exact .inr (.inr ⟨p,q',by rw[cJ]; exact mem_cons_of_mem _ h1,by rw[cJ]; exact mem_cons_of_mem _ h2,h3⟩)
theorem wM {P:DV->Prop} {R R':List DV} (h:nN P R) (h':nN (fun p=>P (cq p)) (R'.map cq)) {x:DV} (hx:x ∈ R') :
  R'.head? = some x\/R'.getLast? = some x\/∀e ∈ jd R,0 < bQ e.1 e.2 x:=by
 have hx':cq x ∈ R'.map cq:=mem_map_of_mem hx
 have inj:∀{a b:DV},cq a=cq b->a=b:=fun {a b} e=>by rw[<-jh a,e,jh]
 rcases Hc h' hx' with h1|h1|⟨p,q,h1,h2,h3⟩
 ·rw[head?_map] at h1
  obtain⟨a,ha,e⟩:=Option.map_eq_some_iff.1 h1
  exact .inl (by rw[ha,inj e])
 ·rw[List.getLast?_map] at h1
  obtain⟨a,ha,e⟩:=Option.map_eq_some_iff.1 h1
  exact .inr (.inl (by rw[ha,inj e]))
 ·refine .inr (.inr fun e he=>?_)
  have hPp:P (cq p):=h'.sub p (Du h1).1
  have hPq:P (cq q):=h'.sub q (Du h2).2
  have hPx:P x:=by have:=h'.sub _ hx'; rw[jh] at this; exact this
  have l1:=h.low e he _ hPp
  have l2:=h.low e he _ hPq
  have l3:=h.low e he _ hPx
  by_cases hz:bQ e.1 e.2 x=0
  ·exfalso
   have hd:=pr (xB h.desc he)
   have ha:=pr (xB h'.desc h1)
   have hb:=pr (xB h'.desc h2)
   rw[NP e.1 e.2 x,hz] at l1 l2
   have e1:aZ (aW e.2 e.1) (aW (cq p) x)=aZ (aW e.2 e.1) (aW (cq x) p):=by unfold aZ aW cq; grind
   have e2:aZ (aW e.2 e.1) (aW (cq q) x)=aZ (aW q (cq x)) (aW e.2 e.1):=by unfold aZ aW cq; grind
   rw[e1] at l1
   rw[e2] at l2
   have:=SG ha hb hd h3 (by show 0<=aZ (aW q (cq x)) (aW e.2 e.1); omega)
   rw[uh] at this
   simp only at this
   omega
  ·omega
theorem qV:∀{r:List DV} {i:Nat},i+1 < r.length->(nth (t:=an) r (i+1),nth (t:=an) r i) ∈ jd r
 | [],i,h=>by simp at h
 | [a],i,h=>by simp at h
 | b :: a :: l,0,h=>by rw[cJ]; exact mem_cons_self
 | b :: a :: l,i+1,h=>by
  rw[cJ]
  refine mem_cons_of_mem _ ?_
  have:=qV (r:=a :: l) (i:=i) (by simp at h ⊢; omega)
  simpa [nth] using this
theorem EM {r:List DV} {i:Nat} (h:i < r.length):nth (t:=an) r.reverse i=nth (t:=an) r (r.length - 1 - i):=by
 rw[aM (by rw[length_reverse]; exact h),aM J,List.getElem_reverse]
theorem I0 {r:List DV} {i:Nat} (h:i < r.length - 1):nth (t:=an) r.dropLast i=nth (t:=an) r i:=by
 rw[aM (by rw[length_dropLast]; exact h),aM J,List.getElem_dropLast]
theorem ZP {l m:List DV} {i:Nat} (h:i < l.length):nth (t:=an) (l++m) i=nth (t:=an) l i:=by
 rw[aM (by rw[length_append]; omega),aM h,List.getElem_append_left h]
theorem Z9 {l m:List DV} {i:Nat} (h:l.length<=i) (h2:i < l.length+m.length):nth (t:=an) (l++m) i=nth (t:=an) m (i - l.length):=by
 rw[aM (by rw[length_append]; omega),aM J,List.getElem_append_right h]
structure LP (P:DV->Prop) (H:List DV):Prop where
 three:3<=H.length
 nodup:H.Nodup
 str:∀i,i < H.length->∀x ∈ H,x=nth (t:=an) H i\/x=nth (t:=an) H (dB H.length i).toNat\/0 < bQ (nth (t:=an) H i) (nth (t:=an) H (dB H.length i).toNat) x
 low:∀i,i < H.length->∀p,P p->0<=bQ (nth (t:=an) H i) (nth (t:=an) H (dB H.length i).toNat) p
 sub:∀x ∈ H,P x
theorem rQ {n i:Nat} (h:i+1 < n):(dB n i).toNat=i+1:=by
 unfold dB
 rw[Int.emod_eq_of_lt J J]; omega
theorem yH {n i:Nat} (h:i+1=n):(dB n i).toNat=0:=by
 unfold dB
 rw[show ((i:Int)+1)=(n:Int) from J,Int.emod_self]; rfl
theorem ade {d u v:DV} (hd:d ≠ (0,0)) (h1:aZ d u=0) (h2:aZ d v=0):aZ u v=0:=by
 have k1:d.1 * aZ u v=u.1 * aZ d v - v.1 * aZ d u:=by unfold aZ; grind
 have k2:d.2 * aZ u v=u.2 * aZ d v - v.2 * aZ d u:=by unfold aZ; grind
 rw[h1,h2,mul_zero,mul_zero,sub_zero] at k1 k2
 rcases mul_eq_zero.1 k1 with h|h
 ·rcases mul_eq_zero.1 k2 with h'|h'
  ·exact absurd (Prod.ext h h') hd
  ·exact h'
 ·exact h
theorem YP {l m:List DV} {x:DV} (k:Nat) (h:k=l.length):nth (t:=an) (l++x :: m) k=x:=by
 subst h
 rw[aM ah,List.getElem_append_right (le_refl _)]
 simp
theorem Jm {r:List DV} {x:DV} (h:r.getLast? = some x):nth (t:=an) r (r.length - 1)=x:=by
 obtain⟨ys,rfl⟩:=List.getLast?_eq_some_iff.1 h
 rw[show (ys++[x]).length - 1=ys.length by simp]
 exact YP _ rfl
theorem HM {r:List DV} {x:DV} (h:r.head? = some x):nth (t:=an) r 0=x:=by
 cases r with
 | nil=>simp at h
 | cons a r=>simp at h; exact h
theorem Yw {S R R':List DV} {m M:DV} (hm:m ∈ S) (hM:M ∈ S) (hmM:cg m M) (hR:nN (fun p=>p ∈ S) R) (hR':nN (fun p=>cq p ∈ S) (R'.map cq)) (hh:R.head? = some M) (hl:R.getLast? = some m) (hh':R'.head? = some m) (hl':R'.getLast? = some M)
  (hn:∃a ∈ S,∃b ∈ S,∃c ∈ S,bQ a b c ≠ 0):LP (fun p=>p ∈ S) (R.reverse.dropLast++R'.reverse.dropLast):=by
 have inj:∀{a b:DV},cq a=cq b->a=b:=fun {a b} e=>by rw[<-jh a,e,jh]
 have hne:m ≠ M:=fun h=>by subst h; exact eD _ hmM
 have k1:2<=R.length:=by
  match R,hh,hl with
  | [a],h1,h2=>simp at h1 h2; exact absurd (h2.symm.trans h1) hne
  | _ :: _ :: _,_,_=>simp
 have k2:2<=R'.length:=by
  match R',hh',hl' with
  | [a],h1,h2=>simp at h1 h2; exact absurd (h1.symm.trans h2) hne
  | _ :: _ :: _,_,_=>simp
 have mR:m ∈ R:=List.mem_of_getLast? hl
 have MR:M ∈ R:=List.mem_of_head? hh
 have mR':m ∈ R':=List.mem_of_head? hh'
 have MR':M ∈ R':=List.mem_of_getLast? hl'
 have hR2:nN (fun p=>cq (cq p) ∈ S) ((R.map cq).map cq):=by rw[RL]; simpa [jh] using hR
 have bnd:∀e,(e ∈ jd R\/e ∈ jd R')->(∀p ∈ S,0<=bQ e.1 e.2 p)/\∀x,(x ∈ R\/x ∈ R')->x=e.1\/x=e.2\/0 < bQ e.1 e.2 x:=by
  rintro e (he|he)
  ·refine⟨hR.low e he,fun x hx=>?_⟩
   rcases hx with hx|hx
   ·exact hR.str e he x hx
   ·rcases wM hR hR' hx with h|h|h
    ·rw[hh'] at h; injection h with h; subst h; exact hR.str e he m mR
    ·rw[hl'] at h; injection h with h; subst h; exact hR.str e he M MR
    ·exact .inr (.inr (h e he))
  ·have he':=Pv he
   have key:∀x,cq x ∈ R'.map cq->x=e.1\/x=e.2\/0 < bQ e.1 e.2 x:=by
    intro x hx
    rcases hR'.str _ he' _ hx with h|h|h
    ·exact .inl (inj h)
    ·exact .inr (.inl (inj h))
    ·exact .inr (.inr (by rw[<-xG]; exact h))
   refine⟨fun p hp=>?_,fun x hx=>?_⟩
   ·have:=hR'.low _ he' (cq p) (by rw[jh]; exact hp)
    rw[<-xG]; exact this
   ·rcases hx with hx|hx
    ·rcases wM hR' hR2 (mem_map_of_mem hx) with h|h|h
     ·rw[head?_map,hh] at h; injection h with h; rw[<-inj h]; exact key M (mem_map_of_mem MR')
     ·rw[List.getLast?_map,hl] at h; injection h with h; rw[<-inj h]; exact key m (mem_map_of_mem mR')
     ·exact .inr (.inr (by rw[<-xG]; exact h _ he'))
    ·exact key x (mem_map_of_mem hx)
 have lL:R.reverse.length=R.length:=length_reverse
 have lU:R'.reverse.length=R'.length:=length_reverse
 have lLd:R.reverse.dropLast.length=R.length - 1:=by rw[length_dropLast,lL]
 have lUd:R'.reverse.dropLast.length=R'.length - 1:=by rw[length_dropLast,lU]
 have hH:(R.reverse.dropLast++R'.reverse.dropLast).length=(R.length - 1)+(R'.length - 1):=by rw[length_append,lLd,lUd]
 have iL:∀i,i < R.length - 1->nth (t:=an) (R.reverse.dropLast++R'.reverse.dropLast) i=nth (t:=an) R (R.length - 1 - i):=fun i hi=>by
  rw[ZP J,I0 J,EM J]
 have iU:∀j,j < R'.length - 1->nth (t:=an) (R.reverse.dropLast++R'.reverse.dropLast) (R.length - 1+j)=nth (t:=an) R' (R'.length - 1 - j):=fun j hj=>by
  rw[Z9 J J,lLd,show R.length - 1+j - (R.length - 1)=j from J,I0 J,EM J]
 have r0:=HM hh
 have r1:=Jm hl
 have s0:=HM hh'
 have s1:=Jm hl'
 have iedg:∀i,i < (R.length - 1)+(R'.length - 1)->(nth (t:=an) (R.reverse.dropLast++R'.reverse.dropLast) i,nth (t:=an) (R.reverse.dropLast++R'.reverse.dropLast) (dB ((R.length - 1)+(R'.length - 1)) i).toNat) ∈ jd R\/(nth (t:=an) (R.reverse.dropLast++R'.reverse.dropLast) i,nth (t:=an) (R.reverse.dropLast++R'.reverse.dropLast) (dB ((R.length - 1)+(R'.length - 1)) i).toNat) ∈ jd R':=by
  intro i hi
  by_cases h:i < R.length - 1
  ·left
   have e:=qV (r:=R) (i:=R.length - 2 - i) J
   rw[rQ J,iL i h]
   have h2:nth (t:=an) (R.reverse.dropLast++R'.reverse.dropLast) (i+1)=nth (t:=an) R (R.length - 2 - i):=by
    by_cases h3:i+1 < R.length - 1
    ·rw[iL _ h3]; congr 1; omega
    ·rw[show i+1=R.length - 1+0 from J,iU 0 J,show R'.length - 1 - 0=R'.length - 1 from J,s1,show R.length - 2 - i=0 from J,r0]
   rw[h2,show R.length - 1 - i=R.length - 2 - i+1 from J]
   exact e
  ·right
   obtain⟨j,rfl⟩:∃j,i=R.length - 1+j:=⟨i - (R.length - 1),J⟩
   have e:=qV (r:=R') (i:=R'.length - 2 - j) J
   rw[iU j J]
   have h2:nth (t:=an) (R.reverse.dropLast++R'.reverse.dropLast) (dB ((R.length - 1)+(R'.length - 1)) (R.length - 1+j)).toNat=nth (t:=an) R' (R'.length - 2 - j):=by
    by_cases h3:j+1 < R'.length - 1
    ·rw[rQ J,show R.length - 1+j+1=R.length - 1+(j+1) from J,iU _ h3]; congr 1; omega
    ·rw[yH J,iL 0 J,show R.length - 1 - 0=R.length - 1 from J,r1,show R'.length - 2 - j=0 from J,s0]
   rw[h2,show R'.length - 1 - j=R'.length - 2 - j+1 from J]
   exact e
 have inH:∀x,x ∈ R.reverse.dropLast++R'.reverse.dropLast->x ∈ R\/x ∈ R':=by
  intro x hx
  rcases mem_append.1 hx with h|h
  ·exact .inl (mem_reverse.1 (List.dropLast_subset _ h))
  ·exact .inr (mem_reverse.1 (List.dropLast_subset _ h))
 have subS:∀x,(x ∈ R\/x ∈ R')->x ∈ S:=by
  rintro x (h|h)
  ·exact hR.sub x h
  ·have:=hR'.sub _ (mem_map_of_mem h); rw[jh] at this; exact this
 have dL:R.reverse.Pairwise cg:=List.pairwise_reverse.2 hR.desc
 have dU:R'.reverse.Pairwise (fun a b=>cg b a):=by
  have:=hR'.desc
  rw[List.pairwise_map] at this
  exact List.pairwise_reverse.2 (this.imp fun {a b} h=>Qg.1 h)
 have spL:R.reverse=R.reverse.dropLast++[M]:=by
  have:R.reverse.getLast? = some M:=by rw[List.getLast?_reverse]; exact hh
  obtain⟨ys,hy⟩:=List.getLast?_eq_some_iff.1 this
  rw[hy]; simp
 have spU:R'.reverse=R'.reverse.dropLast++[m]:=by
  have:R'.reverse.getLast? = some m:=by rw[List.getLast?_reverse]; exact hh'
  obtain⟨ys,hy⟩:=List.getLast?_eq_some_iff.1 this
  rw[hy]; simp
 have ltM:∀x ∈ R.reverse.dropLast,cg x M:=fun x hx=>by
  rw[spL] at dL
  exact (pairwise_append.1 dL).2.2 x hx M ah
 have gtm:∀x ∈ R'.reverse.dropLast,cg m x:=fun x hx=>by
  rw[spU] at dU
  exact (pairwise_append.1 dU).2.2 x hx m ah
 refine⟨?_,?_,?_,?_,fun x hx=>subS x (inH x hx)⟩
 ·rw[hH]
  by_cases h:3<=R.length - 1+(R'.length - 1)
  ·exact h
  ·exfalso
   have h1:R.length=2:=J
   have h2:R'.length=2:=J
   have e1:=qV (r:=R) (i:=0) J
   have e2:=qV (r:=R') (i:=0) J
   rw[show 0+1=R.length - 1 from J,r1,r0] at e1
   rw[show 0+1=R'.length - 1 from J,s1,s0] at e2
   have z:∀p ∈ S,aZ (aW M m) (aW p m)=0:=fun p hp=>by
    have p1:=(bnd _ (.inl e1)).1 p hp
    have p2:=(bnd _ (.inr e2)).1 p hp
    have:bQ M m p=- bQ m M p:=by unfold bQ; grind
    simp only at p1 p2
    rw[this] at p2
    rw[<-kr]
    omega
   obtain⟨a,ha,b,hb,c,hc,hne2⟩:=hn
   refine hne2 ?_
   rw[kr]
   refine ade (d:=aW M m) (fun h=>?_) ?_ ?_
   ·have q1:=congrArg fst h
    have q2:=congrArg snd h
    unfold aW at q1 q2
    simp only at q1 q2
    exact hne (Prod.ext J J)
   ·have:aZ (aW M m) (aW b a)=aZ (aW M m) (aW b m) - aZ (aW M m) (aW a m):=by unfold aZ aW; grind
    rw[this,z b hb,z a ha]; rfl
   ·have:aZ (aW M m) (aW c a)=aZ (aW M m) (aW c m) - aZ (aW M m) (aW a m):=by unfold aZ aW; grind
    rw[this,z c hc,z a ha]; rfl
 ·rw[List.nodup_append]
  refine⟨?_,?_,?_⟩
  ·exact (dL.sublist (List.dropLast_sublist _)).imp fun {a b} h e=>by subst e; exact eD _ h
  ·exact (dU.sublist (List.dropLast_sublist _)).imp fun {a b} h e=>by subst e; exact eD _ h
  ·rintro x hx y hy rfl
   have q1:=ltM x hx
   have q2:=gtm x hy
   have hxR':x ∈ R':=mem_reverse.1 (List.dropLast_subset _ hy)
   rcases wM hR hR' hxR' with h|h|h
   ·rw[hh'] at h; injection h with h; subst h; exact eD _ q2
   ·rw[hl'] at h; injection h with h; subst h; exact eD _ q1
   ·obtain⟨i,hi,rfl⟩:=getElem_of_mem hx
    have hi2:i < R.length - 1:=J
    have e:=qV (r:=R) (i:=R.length - 2 - i) J
    have e2:R.reverse.dropLast[i]=nth (t:=an) R (R.length - 2 - i+1):=by
     rw[<-aM (t:=an) hi,I0 J,EM J]; congr 1; omega
    have:=h _ e
    rw[e2] at this
    simp only at this
    rw[BO] at this
    omega
 ·intro i hi x hx
  rw[hH] at hi ⊢
  exact (bnd _ (iedg i hi)).2 x (inH x hx)
 ·intro i hi p hp
  rw[hH] at hi ⊢
  exact (bnd _ (iedg i hi)).1 p hp
theorem UR {S:List DV} (hs:S.Pairwise cg) (hn:∃a ∈ S,∃b ∈ S,∃c ∈ S,bQ a b c ≠ 0):LP (fun p=>p ∈ S) (py S++py S.reverse):=by
 have hn':=hn
 obtain⟨a,ha,b,hb,c,hc,hne⟩:=hn'
 obtain⟨n,hnl⟩:∃n,S.length=n+1:=⟨S.length - 1,by have:=List.length_pos_of_mem ha; omega⟩
 obtain⟨t,r,e1,e2,e3,hR⟩:=Kz n hnl hs
 have hsr:(S.reverse.map cq).Pairwise cg:=by
  rw[List.pairwise_map,List.pairwise_reverse]
  exact hs.imp fun {a b} h=>Qg.2 h
 obtain⟨t',r',f1,f2,f3,hR0⟩:=Kz n (l:=S.reverse.map cq) (by rw[length_map,length_reverse]; exact hnl) hsr
 rw[ZH] at f1 f2 hR0
 have hR':nN (fun p=>(cq p) ∈ S) ((gJ S.reverse).map cq):=by
  refine⟨hR0.desc,hR0.Nv,fun e he p hp=>hR0.low e he p ?_,hR0.str,fun x hx=>?_⟩
  ·rw[show p=cq (cq p) from (jh p).symm]
   exact mem_map_of_mem (mem_reverse.2 hp)
  ·obtain⟨y,hy,rfl⟩:=mem_map.1 (hR0.sub x hx)
   rw[jh]
   exact mem_reverse.1 hy
 have injO:∀{a b:Option DV},a.map cq=b.map cq->a=b:=by
  intro a b h
  have:=congrArg (Option.map cq) h
  simpa [Option.map_map,show (cq ∘ cq)=id from funext jh] using this
 have g2:(gJ S.reverse).getLast? = S.getLast?:=by
  rw[List.getLast?_map,head?_map] at f2
  rw[injO f2,List.head?_reverse]
 have g3:(gJ S.reverse).head? = S.head?:=by
  have h1:((gJ S.reverse).map cq).head? = some t':=by rw[f1]; rfl
  rw[<-f3,head?_map,List.getLast?_map,List.getLast?_reverse] at h1
  exact injO h1
 have g1:(gJ S).head? = S.getLast?:=by rw[e1,e3]; rfl
 obtain⟨m,S',rfl⟩:∃m S',S=m :: S':=by
  cases S with
  | nil=>simp at ha
  | cons m S'=>exact⟨m,S',rfl⟩
 obtain⟨M,hM1,hM2⟩:∃M,(m :: S').getLast? = some M/\M ∈ S':=by
  cases S' with
  | nil =>
   simp at ha hb hc
   subst ha hb hc
   exact absurd (BO _ _) hne
  | cons x S'=>exact⟨(x :: S').getLast ah,by rw[List.getLast?_cons_cons,List.getLast?_eq_some_getLast],List.getLast_mem _⟩
 exact Yw (m:=m) (M:=M) ah (mem_cons_of_mem _ hM2) ((pairwise_cons.1 hs).1 M hM2) hR hR' (g1.trans hM1) e2 g3 (g2.trans hM1) hn
theorem rO:∀(N:Nat) (l:List Nat),l.Nodup->(∀x ∈ l,x < N)->l.length<=N
 | 0,l,_,h=>by
  cases l with
  | nil=>simp
  | cons a l=>exact absurd (h a ah) J
 | N+1,l,hd,h=>by
  by_cases hm:N ∈ l
  ·have h1:=List.length_erase_of_mem hm
   have h2:=rO N (l.erase N) (hd.erase N) fun x hx=>by
    have h3:=h x (List.mem_of_mem_erase hx)
    have h4:x ≠ N:=fun e=>by subst e; exact hd.not_mem_erase hx
    omega
   omega
  ·have:=rO N l hd fun x hx=>by
    have h3:=h x hx
    have h4:x ≠ N:=fun e=>by subst e; exact hm hx
    omega
   omega
theorem Z3 {n N:Nat} {R:Nat->Nat->Prop} (h:∀i,i < n->∃c,c < N/\R i c) (inj:∀i j c,i < n->j < n->R i c->R j c->i=j):n<=N:=by
 have hf:∃f:Nat->Nat,∀i,i < n->f i < N/\R i (f i):=by
  refine⟨fun i=>if hi:i < n then Classical.choose (h i hi) else 0,fun i hi=>?_⟩
  simp only[hi,dif_pos]
  exact Classical.choose_spec (h i hi)
 obtain⟨f,hf⟩:=hf
 have h1:=rO N ((List.range n).map f) (by
  rw[List.nodup_iff_pairwise_ne,List.pairwise_map]
  have hr:(List.range n).Pairwise (fun a b=>a < b):=List.pairwise_lt_range
  refine (pairwise_iff_getElem.2 fun i j hi hj hij=>?_)
  simp only[List.length_range] at hi hj
  simp only[getElem_range]
  intro e
  have:=inj i j (f i) hi hj (hf i hi).2 (by rw[e]; exact (hf j hj).2)
  omega) (by
  intro x hx
  obtain⟨i,hi,rfl⟩:=mem_map.1 hx
  exact (hf i (List.mem_range.1 hi)).1)
 simpa using h1
theorem yU (a:Int):0<=a * a:=by
 rcases Int.le_total 0 a with h|h
 ·exact mul_nonneg h h
 ·exact Int.mul_nonneg_of_nonpos_of_nonpos h h
theorem KA {l:List DV} (h:l.Nodup) {i j:Nat} (hi:i < l.length) (hj:j < l.length) (e:l[i]=l[j]):i=j:=by
 rw[List.nodup_iff_pairwise_ne] at h
 rcases Nat.lt_trichotomy i j with h1|h1|h1
 ·exact absurd e (pairwise_iff_getElem.1 h i j hi hj h1)
 ·exact h1
 ·exact absurd e.symm (pairwise_iff_getElem.1 h j i hj hi h1)
theorem abW {a b:DV} (h:a ≠ b):aW a b ≠ (0,0):=by
 intro e
 unfold aW at e
 have q1:=congrArg fst e
 have q2:=congrArg snd e
 simp only at q1 q2
 exact h (Prod.ext J J)
theorem sr {d:DV} (h:d ≠ (0,0)):0 < dt d d:=by
 unfold dt
 have h1:=yU d.1
 have h2:=yU d.2
 by_cases e1:d.1=0
 ·by_cases e2:d.2=0
  ·exact absurd (Prod.ext e1 e2) h
  ·have:d.2 * d.2 ≠ 0:=fun h=>(mul_eq_zero.1 h).elim e2 e2
   omega
 ·have:d.1 * d.1 ≠ 0:=fun h=>(mul_eq_zero.1 h).elim e1 e1
  omega
theorem CJ {a b c:Int} (h:a * b=c) (hb:0 < b) (hc:0<=c):0<=a:=by
 by_cases ha:0<=a
 ·exact ha
 ·have:=Int.mul_neg_of_neg_of_pos (show a < 0 from J) hb
  omega
theorem Li {a b c:Int} (h:a * b=c) (hb:0 < b) (hc:0 < c):0 < a:=by
 have:=CJ h hb (Int.le_of_lt hc)
 by_cases ha:a=0
 ·subst ha; omega
 ·omega
theorem H8 {d E c:DV} (hd:d ≠ (0,0)) (h0:aZ d E=0) (h1:0 < aZ E c) (h2:0<=aZ d c):0 < dt d E:=by
 have hE:E ≠ (0,0):=fun h=>by subst h; unfold aZ at h1; simp at h1
 have k:dt d E * aZ E c=aZ d c * dt E E - aZ d E * dt E c:=by unfold dt aZ; grind
 rw[h0,Int.zero_mul,sub_zero] at k
 have n1:=CJ k h1 (mul_nonneg h2 (Int.le_of_lt (sr hE)))
 have k2:dt d E * dt d E+aZ d E * aZ d E=dt d d * dt E E:=by unfold dt aZ; grind
 rw[h0,mul_zero,Int.add_zero] at k2
 have n2:=Int.mul_pos (sr hd) (sr hE)
 by_cases hz:dt d E=0
 ·rw[hz,mul_zero] at k2; omega
 ·omega
theorem Ta {n i:Nat} (hi:i < n):(dB n i).toNat=(if i+1 < n then i+1 else 0):=by
 split
 ·exact rQ (by assumption)
 ·exact yH J
theorem X1 {n i:Nat} (hi:i < n):∃h,h < n/\(dB n h).toNat=i:=by
 by_cases h0:i=0
 ·exact⟨n - 1,J,by rw[yH J,h0]⟩
 ·exact⟨i - 1,J,by rw[rQ J]; omega⟩
theorem Ef {l:List DV} (h:bO l) {i k:Nat} (hi:i < l.length) (hk:k < l.length) (h1:k ≠ i) (h2:k ≠ (dB l.length i).toNat):0 < bQ (nth (t:=an) l i) (nth (t:=an) l (dB l.length i).toNat) (nth (t:=an) l k) :=
 h.2.2 i k hi hk J (by have:=iI (n:=l.length) (i:=i) J; omega)
theorem Xi (n i j:Nat) (hn:3<=n):∃k,k < n/\k ≠ i/\k ≠ j:=by
 by_cases h0:i ≠ 0/\j ≠ 0
 ·exact⟨0,J,J,J⟩
 ·by_cases h1:i ≠ 1/\j ≠ 1
  ·exact⟨1,J,J,J⟩
  ·exact⟨2,J,J,J⟩
def dm (l:List DV) (t:Nat):DV:=aW (nth (t:=an) l (dB l.length t).toNat) (nth (t:=an) l t)
theorem Fa {l:List DV} (h:bO l) {d:DV} (hd:d ≠ (0,0)) {i j:Nat} (hi:i < l.length) (hj:j < l.length) (hne:nth (t:=an) l i ≠ nth (t:=an) l j) (hall:∀x ∈ l,0<=aZ d (aW x (nth (t:=an) l i)))
  (hz:aZ d (aW (nth (t:=an) l j) (nth (t:=an) l i))=0):∃t,t < l.length/\aZ d (dm l t)=0/\0 < dt d (dm l t):=by
 have h3:3<=l.length:=by have:=h.1.1; omega
 have hij:i ≠ j:=fun e=>hne (by rw[e])
 by_cases c1:j=(dB l.length i).toNat
 ·obtain⟨k,hk,hk1,hk2⟩:=Xi l.length i j h3
  have ht:=Ef h hi hk hk1 (by rw[<-c1]; exact hk2)
  have he:dm l i=aW (nth (t:=an) l j) (nth (t:=an) l i):=by unfold dm; rw[<-c1]
  refine⟨i,hi,by rw[he]; exact hz,?_⟩
  rw[he]
  rw[kr,<-c1] at ht
  exact H8 hd hz ht (hall _ (aU hk))
 ·by_cases c2:i=(dB l.length j).toNat
  ·obtain⟨k,hk,hk1,hk2⟩:=Xi l.length i j h3
   have ht:=Ef h hj hk hk2 (by rw[<-c2]; exact hk1)
   have he:dm l j=aW (nth (t:=an) l i) (nth (t:=an) l j):=by unfold dm; rw[<-c2]
   have hz':aZ d (aW (nth (t:=an) l i) (nth (t:=an) l j))=0:=by
    have:aZ d (aW (nth (t:=an) l i) (nth (t:=an) l j))=- aZ d (aW (nth (t:=an) l j) (nth (t:=an) l i)):=by unfold aZ aW; grind
    rw[this,hz]; rfl
   refine⟨j,hj,by rw[he]; exact hz',?_⟩
   rw[he]
   rw[kr,<-c2] at ht
   refine H8 hd hz' ht ?_
   have h4:=hall _ (aU hk)
   have:aZ d (aW (nth (t:=an) l k) (nth (t:=an) l j))=aZ d (aW (nth (t:=an) l k) (nth (t:=an) l i)) - aZ d (aW (nth (t:=an) l j) (nth (t:=an) l i)):=by unfold aZ aW; grind
   omega
  ·exfalso
   obtain⟨g,hg,hgi⟩:=X1 hi
   have hr:=iI (n:=l.length) (i:=i) J
   have hn:(dB l.length i).toNat < l.length:=J
   have t1:=Ef h hi hj (Ne.symm hij) c1
   have t2:=Ef h hg hj (fun e=>c2 (by rw[e]; exact hgi.symm)) (by rw[hgi]; exact Ne.symm hij)
   rw[hgi] at t2
   have a1:=hall _ (aU hn)
   have a2:=hall _ (aU hg)
   generalize nth (t:=an) l i=p at *
   generalize nth (t:=an) l j=q at *
   generalize nth (t:=an) l (dB l.length i).toNat=s at *
   generalize nth (t:=an) l g=u at *
   have k1:bQ p s q * dt d d=- (aZ d (aW s p) * dt d (aW q p))+dt (aW s p) d * aZ d (aW q p):=by unfold bQ dt aZ aW; grind
   have k2:bQ u p q * dt d d=aZ d (aW u p) * dt d (aW q p) - aZ d (aW q p) * dt d (aW u p):=by unfold bQ dt aZ aW; grind
   rw[hz,mul_zero,Int.add_zero] at k1
   rw[hz,Int.zero_mul,sub_zero] at k2
   have m1:=Int.mul_pos t1 (sr hd)
   have m2:=Int.mul_pos t2 (sr hd)
   have n1:dt d (aW q p) < 0:=by
    by_cases hq:dt d (aW q p) < 0
    ·exact hq
    ·have:=mul_nonneg a1 (show 0<=dt d (aW q p) from J)
     omega
   have n2:0 < dt d (aW q p):=by
    by_cases hq:0 < dt d (aW q p)
    ·exact hq
    ·have:=mul_nonneg a2 (show 0<=- dt d (aW q p) from J)
     rw[Int.mul_neg] at this
     omega
   omega
def fv (a b:List DV):List DV:=a.flatMap fun p=>b.map (fb p)
theorem gv {a b:List DV} {x:DV}:x ∈ fv a b ↔ ∃p ∈ a,∃q ∈ b,fb p q=x:=by
 unfold fv
 simp only[List.mem_flatMap,mem_map]
theorem MC {P:DV->Prop} {H:List DV} (hH:LP P H) {i j:Nat} (hi:i < H.length) (hj:j < H.length) {E:DV} (h1:aZ (dm H i) E=0) (h2:0 < dt (dm H i) E) (h3:aZ (dm H j) E=0) (h4:0 < dt (dm H j) E):i=j:=by
 have hE:0 < dt E E:=sr fun h=>by subst h; unfold dt at h2; simp at h2
 have k1:aZ (dm H i) (dm H j) * dt E E=aZ (dm H i) E * dt E (dm H j) - aZ (dm H j) E * dt E (dm H i):=by unfold dt aZ; grind
 rw[h1,h3,Int.zero_mul,Int.zero_mul,sub_zero] at k1
 have z:aZ (dm H i) (dm H j)=0:=by
  rcases mul_eq_zero.1 k1 with h|h
  ·exact h
  ·omega
 have k2:dt (dm H i) (dm H j) * dt E E=dt (dm H i) E * dt (dm H j) E+aZ (dm H i) E * aZ (dm H j) E:=by unfold dt aZ; grind
 rw[h1,Int.zero_mul,Int.add_zero] at k2
 have p:=Li k2 hE (Int.mul_pos h2 h4)
 by_cases hij:i=j
 ·exact hij
 ·exfalso
  have ri:=iI (n:=H.length) (i:=i) J
  have rj:=iI (n:=H.length) (i:=j) J
  have mi:nth (t:=an) H i ∈ H:=aU hi
  have mj:nth (t:=an) H j ∈ H:=aU hj
  have ndI:nth (t:=an) H i ≠ nth (t:=an) H j:=by
   rw[aM hi,aM hj]
   intro e
   exact hij (KA hH.nodup _ _ e)
  have l1:=hH.low i hi _ (hH.sub _ mj)
  have l2:=hH.low j hj _ (hH.sub _ mi)
  have s1:=hH.str i hi _ mj
  have s2:=hH.str j hj _ mi
  unfold dm at z p h1 h2 h3 h4
  have dd1:0 < dt (aW (nth (t:=an) H (dB H.length i).toNat) (nth (t:=an) H i)) (aW (nth (t:=an) H (dB H.length i).toNat) (nth (t:=an) H i)):=sr fun h=>by rw[h] at h2; unfold dt at h2; simp at h2
  generalize nth (t:=an) H i=a at *
  generalize nth (t:=an) H j=b at *
  generalize nth (t:=an) H (dB H.length i).toNat=a' at *
  generalize nth (t:=an) H (dB H.length j).toNat=b' at *
  rw[kr] at l1 l2
  have k3:aZ (aW b' b) (aW a b) * dt (aW a' a) (aW a' a)=- (aZ (aW a' a) (aW b a) * dt (aW a' a) (aW b' b)) - aZ (aW a' a) (aW b' b) * dt (aW a' a) (aW a b):=by unfold dt aZ aW; grind
  rw[z,Int.zero_mul,sub_zero] at k3
  have q1:=mul_nonneg l2 (Int.le_of_lt dd1)
  have q2:=mul_nonneg l1 (Int.le_of_lt p)
  have q3:aZ (aW a' a) (aW b a) * dt (aW a' a) (aW b' b)=0:=J
  have q4:aZ (aW a' a) (aW b a)=0:=by
   rcases mul_eq_zero.1 q3 with h|h
   ·exact h
   ·omega
  have q5:aZ (aW b' b) (aW a b)=0:=by
   have:aZ (aW b' b) (aW a b) * dt (aW a' a) (aW a' a)=0:=by rw[k3,q3]; rfl
   rcases mul_eq_zero.1 this with h|h
   ·exact h
   ·omega
  rw[kr] at s1 s2
  rcases s1 with h|h|h
  ·exact ndI h.symm
  ·rcases s2 with h'|h'|h'
   ·exact ndI h'
   ·subst h h'
    have:dt (aW b a) (aW a b)=- dt (aW b a) (aW b a):=by unfold dt aW; grind
    omega
   ·omega
  ·omega
theorem Mg {a b H:List DV} (ha:bO a) (hb:bO b) (hH:LP (fun p=>p ∈ fv a b) H):H.length<=a.length+b.length:=by
 refine Z3 (R:=fun i c=>(c < a.length/\aZ (dm H i) (dm a c)=0/\0 < dt (dm H i) (dm a c))\/(a.length<=c/\aZ (dm H i) (dm b (c - a.length))=0/\0 < dt (dm H i) (dm b (c - a.length)))) ?_ ?_
 ·intro i hi
  have ri:=iI (n:=H.length) (i:=i) J
  have hn:(dB H.length i).toNat < H.length:=J
  have h3:=hH.three
  have hlow:=hH.low i hi
  have nd:nth (t:=an) H (dB H.length i).toNat ≠ nth (t:=an) H i:=by
   rw[aM hn,aM hi]
   intro e
   have e2:=KA hH.nodup _ _ e
   have:=Ta hi
   split at this<;>omega
  obtain⟨p,hp,q,hq,e1⟩:=gv.1 (hH.sub _ (aU hi))
  obtain⟨p',hp',q',hq',e2⟩:=gv.1 (hH.sub _ (aU hn))
  have hdd:dm H i=aW (nth (t:=an) H (dB H.length i).toNat) (nth (t:=an) H i):=rfl
  have hd0:dm H i ≠ (0,0):=by
   exact abW nd
  have A:∀x ∈ a,0<=aZ (dm H i) (aW x p):=fun x hx=>by
   have h:=hlow (fb x q) (gv.2 ⟨x,hx,q,hq,rfl⟩)
   rw[kr,<-hdd,<-e1] at h
   have:aW (fb x q) (fb p q)=aW x p:=by unfold aW fb; exact Prod.ext (by simp only; omega) (by simp only; omega)
   rw[this] at h; exact h
  have B:∀y ∈ b,0<=aZ (dm H i) (aW y q):=fun y hy=>by
   have h:=hlow (fb p y) (gv.2 ⟨p,hp,y,hy,rfl⟩)
   rw[kr,<-hdd,<-e1] at h
   have:aW (fb p y) (fb p q)=aW y q:=by unfold aW fb; exact Prod.ext (by simp only; omega) (by simp only; omega)
   rw[this] at h; exact h
  have hz:aZ (dm H i) (aW p' p)+aZ (dm H i) (aW q' q)=0:=by
   have:dm H i=(p'.1 - p.1+(q'.1 - q.1),p'.2 - p.2+(q'.2 - q.2)):=by
    rw[hdd,<-e1,<-e2]; unfold aW fb; exact Prod.ext (by simp only; omega) (by simp only; omega)
   rw[this]; unfold aZ aW; grind
  have hA:=A p' hp'
  have hB:=B q' hq'
  have zA:aZ (dm H i) (aW p' p)=0:=J
  have zB:aZ (dm H i) (aW q' q)=0:=J
  obtain⟨i1,hi1,f1⟩:=getElem_of_mem hp
  obtain⟨i2,hi2,f2⟩:=getElem_of_mem hp'
  obtain⟨j1,hj1,g1⟩:=getElem_of_mem hq
  obtain⟨j2,hj2,g2⟩:=getElem_of_mem hq'
  rw[<-aM (t:=an) hi1] at f1
  rw[<-aM (t:=an) hi2] at f2
  rw[<-aM (t:=an) hj1] at g1
  rw[<-aM (t:=an) hj2] at g2
  by_cases hpp:p=p'
  ·have hqq:q ≠ q':=fun h=>nd (by rw[<-e1,<-e2,hpp,h])
   obtain⟨t,ht,h1,h2⟩:=Fa hb hd0 hj1 hj2 (by rw[g1,g2]; exact hqq) (by rw[g1]; exact B) (by rw[g1,g2]; exact zB)
   exact⟨a.length+t,J,.inr ⟨J,by rw[show a.length+t - a.length=t from J]; exact⟨h1,h2⟩⟩⟩
  ·obtain⟨t,ht,h1,h2⟩:=Fa ha hd0 hi1 hi2 (by rw[f1,f2]; exact hpp) (by rw[f1]; exact A) (by rw[f1,f2]; exact zA)
   exact⟨t,J,.inl ⟨ht,h1,h2⟩⟩
 ·rintro i j c hi hj (⟨_,h1,h2⟩|⟨hc,h1,h2⟩) (⟨_,h3,h4⟩|⟨hc',h3,h4⟩)
  ·exact MC hH hi hj h1 h2 h3 h4
  ·omega
  ·omega
  ·exact MC hH hi hj h1 h2 h3 h4
theorem IJ {l:List DV} (hn:∃a ∈ l,∃b ∈ l,∃c ∈ l,bQ a b c ≠ 0):LP (fun p=>p ∈ l) (bT l):=by
 have hn':∃a ∈ fa l,∃b ∈ fa l,∃c ∈ fa l,bQ a b c ≠ 0:=by
  obtain⟨a,ha,b,hb,c,hc,h⟩:=hn
  exact⟨a,ja.2 ha,b,ja.2 hb,c,ja.2 hc,h⟩
 have hC:=UR (Hb l) hn'
 have h2:¬ (fa l).length < 2:=by
  obtain⟨a,ha,b,hb,c,hc,h⟩:=hn'
  intro hlt
  match hs:fa l,ha,hb,hc with
  | [x],ha,hb,hc =>
   simp at ha hb hc
   subst ha hb hc
   exact h (BO _ _)
  | _ :: _ :: _,_,_,_=>rw[hs] at hlt; simp at hlt; omega
 unfold bT
 rw[if_neg h2]
 exact⟨hC.three,hC.nodup,hC.str,fun i hi p hp=>hC.low i hi p (ja.2 hp),fun x hx=>ja.1 (hC.sub x hx)⟩
theorem Hg (c:DV) (x y z:DV):bQ (fb x c) (fb y c) (fb z c)=bQ x y z:=by unfold bQ fb; grind
theorem Tw {a b:List DV} (ha:bO a) (hb:bO b) (hl:a.length+b.length<=16) (hs:∀x ∈ fv a b,bm x=true):bO (bT (fv a b)):=by
 have la:3<=a.length:=by have:=ha.1.1; omega
 have lb:3<=b.length:=by have:=hb.1.1; omega
 have hC:=IJ (l:=fv a b) (by
  have m0:nth (t:=an) b 0 ∈ b:=aU J
  have r0:(dB a.length 0).toNat=1:=rQ J
  refine⟨_,gv.2 ⟨_,aU (l:=a) (i:=0) J,_,m0,rfl⟩,_,gv.2 ⟨_,aU (l:=a) (i:=1) J,_,m0,rfl⟩,_,gv.2 ⟨_,aU (l:=a) (i:=2) J,_,m0,rfl⟩,?_⟩
  rw[Hg]
  have:=Ef ha (i:=0) (k:=2) J J J J
  rw[r0] at this
  omega)
 have hle:=Mg ha hb hC
 have h3:=hC.three
 refine⟨⟨J,J⟩,fun v hv=>hs v (hC.sub v hv),fun i k hi hk n1 n2=>?_⟩
 have ri:=iI (n:=(bT (fv a b)).length) (i:=i) J
 have hn:(dB (bT (fv a b)).length i).toNat < (bT (fv a b)).length:=J
 have nd:∀{j:Nat} (hj:j < (bT (fv a b)).length),k ≠ j->nth (t:=an) (bT (fv a b)) k ≠ nth (t:=an) (bT (fv a b)) j:=by
  intro j hj hkj
  rw[aM hk,aM hj]
  intro e
  exact hkj (KA hC.nodup _ _ e)
 rcases hC.str i hi _ (aU hk) with h|h|h
 ·exact absurd h (nd hi J)
 ·exact absurd h (nd hn J)
 ·exact h
theorem Zl {l:List DV} (h:dD l=true):bO l:=@of_decide_eq_true _ (Classical.propDecidable _) h
theorem vn {l:List DV} {f:DV->DV} (h:bO l) (hok:∀v ∈ l,bm (f v)=true) (ht:∀a b c,bQ (f a) (f b) (f c)=bQ a b c):bO (l.map f):=by
 have hn:∀{k},k < l.length->nth (t:=an) (l.map f) k=f (nth (t:=an) l k):=fun {k} hk=>by
  rw[aM (t:=an) hk,aM (t:=an) (l:=l.map f) (by rw[length_map]; exact hk),getElem_map]
 refine⟨by rw[length_map]; exact h.1,fun v hv=>?_,fun i k hi hk=>?_⟩
 ·obtain⟨u,hu,rfl⟩:=mem_map.1 hv
  exact hok u hu
 ·rw[length_map] at hi hk
  have ri:=iI (n:=l.length) (i:=i) J
  have:=h.2.2 i k hi hk
  unfold rU at this ⊢
  rw[length_map,hn hi,hn hk,hn J,ht]
  exact this
theorem Ua (a b c:DV):bQ (qa a) (qa b) (qa c)=bQ a b c:=by unfold bQ qa; grind
theorem Mn (a b c:DV):∀n,bQ (iy n a) (iy n b) (iy n c)=bQ a b c
 | 0=>rfl
 | n+1=>by
  show bQ (qa (iy n a)) (qa (iy n b)) (qa (iy n c))=_
  rw[Ua,Mn a b c n]
theorem YF {v:DV} (h:bm v=true):bm (nU v)=true:=by
 obtain⟨h1,h2,h3,h4⟩:=eB h
 unfold nU
 exact rm (by simp only; omega) (by simp only; omega) (by simp only; omega) (by simp only; omega)
theorem UW {l:List DV} (h:bO l):bO (l.map nU):=vn h (fun v hv=>YF (h.2.1 v hv)) xG
theorem Vt {l:List DV} (h:bO l) (n:Nat):bO (l.map (iy n)):=vn h (fun v hv=>DN (h.2.1 v hv) n) fun a b c=>Mn a b c n
theorem dc {k:Int} {v:DV} (h:fJ k v=true):-k<=v.1/\v.1<=k/\-k<=v.2/\v.2<=k:=by
 unfold fJ at h
 rw[Bool.and_eq_true] at h
 exact⟨(of_decide_eq_true h.1).1,(of_decide_eq_true h.1).2,(of_decide_eq_true h.2).1,(of_decide_eq_true h.2).2⟩
theorem iO {k:Int} {v:DV} (h1:-k<=v.1) (h2:v.1<=k) (h3:-k<=v.2) (h4:v.2<=k):fJ k v=true:=by
 unfold fJ
 rw[Bool.and_eq_true,decide_eq_true_iff,decide_eq_true_iff]
 exact⟨⟨h1,h2⟩,h3,h4⟩
theorem Ml {k:Int} {v:DV} (h:fJ k v=true):∀n,fJ k (iy n v)=true
 | 0=>h
 | n+1=>by
  obtain⟨b1,b2,b3,b4⟩:=dc (Ml h n)
  show fJ k (qa (iy n v))=true
  unfold qa
  exact iO (by simp only; omega) (by simp only; omega) (by simp only; omega) (by simp only; omega)
structure gI (k:Int) (l:List DV):Prop where
 kd:l.length<=5
 iX:bO l
 ins:∀v ∈ l,fJ k v=true
theorem y6 {l:List DV} {k:Int} (h:ql l k=true):gI k l:=by
 unfold ql at h
 rw[Bool.and_eq_true,Bool.and_eq_true] at h
 obtain⟨h1,h2,h3⟩:=h
 refine⟨by have:=of_decide_eq_true h1; omega,Zl h2,fun v hv=>?_⟩
 unfold jx at h3
 rw[not_eq_true',any_eq_false] at h3
 have:=h3 v hv
 simpa using this
theorem gI.VU {k:Int} {l:List DV} (h:gI k l) (n:Nat):gI k (l.map (iy n)) :=
 ⟨by rw[length_map]; exact h.kd,Vt h.iX n,fun v hv=>by obtain⟨u,hu,rfl⟩:=mem_map.1 hv; exact Ml (h.ins u hu) n⟩
theorem gI.neg {k:Int} {l:List DV} (h:gI k l):gI k (l.map nU) :=
 ⟨by rw[length_map]; exact h.kd,UW h.iX,fun v hv=>by
  obtain⟨u,hu,rfl⟩:=mem_map.1 hv
  obtain⟨b1,b2,b3,b4⟩:=dc (h.ins u hu)
  unfold nU
  exact iO (by simp only; omega) (by simp only; omega) (by simp only; omega) (by simp only; omega)⟩
theorem gI.ok {k:Int} {l:List DV} (h:gI k l):∀v ∈ l,bm v=true:=h.iX.2.1
theorem gI.Ru {k m:Int} {a b:List DV} (ha:gI k a) (hb:gI m b) (hkm:k+m<=1000):∀x ∈ fv a b,bm x=true:=by
 intro x hx
 obtain⟨p,hp,q,hq,rfl⟩:=gv.1 hx
 obtain⟨b1,b2,b3,b4⟩:=dc (ha.ins p hp)
 obtain⟨c1,c2,c3,c4⟩:=dc (hb.ins q hq)
 unfold fb
 exact rm (by simp only; omega) (by simp only; omega) (by simp only; omega) (by simp only; omega)
theorem gI.sum {k m:Int} {a b:List DV} (ha:gI k a) (hb:gI m b) (hkm:k+m<=1000):bO (bT (fv a b)) :=
 Tw ha.iX hb.iX (by have:=ha.kd; have:=hb.kd; omega) (ha.Ru hb hkm)
def Fb (a b:List DV) (i:Nat):List DV:=fv (a.take i) b
theorem Us {a b:List DV} {i:Nat} (h:i < a.length):Fb a b (i+1)=Fb a b i++b.map (fb (nth (t:=an) a i)):=by
 unfold Fb fv
 rw[List.take_succ_eq_append_getElem h,aM h,List.flatMap_append]
 simp
theorem N2 (a b:List DV):(fv a b).length=a.length * b.length:=by
 unfold fv
 induction a with
 | nil=>simp
 | cons x a ih=>rw[List.flatMap_cons,length_append,ih,length_map,length_cons,Nat.succ_mul]; omega
theorem Ym {a b:List DV} {i:Nat} (h:i<=a.length):(Fb a b i).length=i * b.length:=by
 unfold Fb; rw[N2,length_take,Nat.min_eq_left h]
theorem YZ {a b:List DV} {i:Nat} (h:a.length<=i):Fb a b i=fv a b:=by unfold Fb; rw[take_of_length_le h]
theorem JV {i n:Nat} (h1:i<=5) (h2:n<=5):i * n<=25:=Nat.mul_le_mul h1 h2
theorem Cb {k m:Int} (a b:List DV) (ha:gI k a) (hb:gI m b) (hkm:k+m<=1000):Fn prog 272 [⟨.slice an,a⟩,⟨.slice an,b⟩] true [⟨.slice an,bT (fv a b)⟩]:=by
 have c1:=fm a
 have c2:=fm b
 rw[jg ha.iX] at c1
 rw[jg hb.iX] at c2
 have hab:=JV ha.kd hb.kd
 have l1:=ha.kd
 have l2:=hb.kd
 have hab':(a.length:Int) * (b.length:Int)<=25:=by exact_mod_cast hab
 have hab0:(0:Int)<=(a.length:Int) * (b.length:Int):=mul_nonneg J J
 have d0:=ak (p:=(a.length:Int) * (b.length:Int) > 64) J
 refine fe func272 ntmps272 results272 fun hwf=>?_
 refine Cz c1 ?_
 refine cw c2 ?_
 refine Sz ?_
 refine Uz d0 ?_
 refine aF.intro _ _ _ (fun i:Nat=>⟨[(1,.sl an b),(5,.row 0 0),(26,.sl an a),(27,.sc (.int .i64 a.length)),(28,.sc (.int .i64 i))],[(0,.row 24 an 0 true (Fb a b i))]⟩) (fun i=>i<=a.length) (fun i=>a.length - i) 0 ?_ (zero_le _) ?_
 ·exact WK
 ·rintro i hi
  refine Nz ?_
  refine ao ?_ ?_<;>intro hA
  ·have hlt:i < a.length:=J
   have hml:=Ym (a:=a) (b:=b) (i:=i) J
   have h25:=JV (i:=i) (n:=b.length) J l2
   have e:=Us (b:=b) hlt
   have c3:=UJ b (nth (t:=an) a i) (ha.ok _ (aU hlt)) hb.ok J
   have hmm:(b.map (fb (nth (t:=an) a i))).length=b.length:=length_map ..
   refine Bz c3 ?_
   refine fy hml hmm ?_
   refine az.mk (i+1) ?_ J J
   rw[e]
   exact WK
  ·rw[YZ J]
   have hp:=ha.sum hb hkm
   have hsl:=N2 a b
   have pos:0 < (fv a b).length:=by
    rw[hsl]
    have:=ha.iX.1.1
    have:=hb.iX.1.1
    exact Nat.mul_pos J J
   have c4:=RX (fv a b) (ha.Ru hb hkm) pos J
   have c5:=fm (bT (fv a b))
   rw[jg hp] at c5
   refine Cz c4 ?_
   refine cw c5 ?_
   try simp (maxSteps:=9^9) only[go_sem]
def EU (r o:List DV):List DV:=bT (fv o (r.map nU))
theorem C4 {k m:Int} (r o:List DV) (hr:gI k r) (ho:gI m o) (hkm:m+k<=1000):Fn prog 206 [⟨.slice an,r⟩,⟨.slice an,o⟩] true [⟨.slice an,EU r o⟩]:=by
 have c1:=zt r hr.ok (by have:=hr.kd; omega)
 have c2:=Cb o (r.map nU) ho hr.neg hkm
 unfold EU
 refine fe func206 ntmps206 results206 fun hwf=>?_
 refine Cz c1 ?_
 refine cw c2 ?_
 try simp (maxSteps:=9^9) only[go_sem]
theorem TH {k m:Int} {r o:List DV} (hr:gI k r) (ho:gI m o) (hkm:m+k<=1000):bO (EU r o):=ho.sum hr.neg hkm
abbrev ey:Type:=cY.den
def GZ (l:List (List DV)):Bool:=!(l.any fun x=>!ql x 200)
def bp (s:ey):Bool:=jx 200 [s.1,s.2.1] && (decide (s.1.1 < s.2.1.1) && (decide (s.1.2 < s.2.1.2) && (ql s.2.2.1 20 && (decide ((s.2.2.2.1.length:Int)<=4) && (GZ s.2.2.2.1 && (decide ((s.2.2.2.2.length:Int)<=3) && jx 200 s.2.2.2.2))))))
theorem B7 (F:FuncId) (p:(List DV)->Bool) (l:List (List DV)) (hF:∀y ∈ l,Fn prog F [⟨(.slice an),y⟩] false [⟨.bool,p y⟩]):Fn prog 182 [⟨.slice (.slice an),l⟩,⟨.dr (.fn F),()⟩] false [⟨.int,jL (t:=(.slice an)) p l⟩]:=by
 refine fe func182 ntmps182 results182 fun hwf=>?_
 have hl:l.length<=9223372036854775807:=(hwf ⟨.slice (.slice an),l⟩ ah).1
 refine Nz ?_
 refine aF.intro _ _ _ (fun i:Nat=>⟨[(0,.sl (.slice an) l),(1,.sc (.func (.func F) #[] #[])),(7,.sc (.int .i64 l.length)),(8,.sc (.int .i64 i))],[]⟩) (fun i=>∀j < i,j < l.length->p (nth (t:=(.slice an)) l j)=false) (fun i=>l.length - i) 0 ?_ (fun j h=>by simp at h) ?_
 ·exact WK
 ·rintro i h2
  refine Nz ?_
  refine ao ?_ ?_<;>intro h3
  ·have c1:=hF (nth (t:=(.slice an)) l i) (uZ (t:=(.slice an)) J)
   refine Bz c1 ?_
   refine ig (fun h4=>?_) (fun h4=>?_)
   ·refine Nz ?_
    exact (jy J h4 (fun j hj=>h2 j hj J)).symm
   ·refine Sz ?_
    refine az.mk (i+1) ?_ (fun j hj hl=>?_) J
    ·exact WK
    ·by_cases hj2:j < i
     ·exact h2 j hj2 hl
     ·rw[show j=i from J]; exact h4
  ·refine Nz ?_
   exact (fP fun j hj=>h2 j J hj).symm
theorem pD (F:FuncId) (p:(List DV)->Bool) (l:List (List DV)) (hF:∀y ∈ l,Fn prog F [⟨(.slice an),y⟩] false [⟨.bool,p y⟩]):Fn prog 112 [⟨.slice (.slice an),l⟩,⟨.dr (.fn F),()⟩] false [⟨.bool,l.any p⟩]:=by
 have c1:=B7 F p l hF
 refine fe func112 ntmps112 results112 fun hwf=>?_
 refine Bz c1 ?_
 exact lq
theorem AY (l:List DV):Fn prog 113 [⟨.slice an,l⟩] false [⟨.bool,!ql l 200⟩]:=by
 have c1:=Dd l 200 ae
 refine fe func113 ntmps113 results113 fun hwf=>?_
 refine Sz ?_
 refine cw c1 ?_
 all_goals exact Fz
theorem zx (a1 a2 b1 b2:Int) (r:List DV) (ob:List (List DV)) (tb:List DV):Fn prog 45 [⟨cY,((a1,a2),(b1,b2),r,ob,tb)⟩] false [⟨.bool,bp ((a1,a2),(b1,b2),r,ob,tb)⟩]:=by
 have c1:Fn prog 110 [⟨.int,200⟩,⟨.slice an,[(a1,a2),(b1,b2)]⟩] false [⟨.bool,jx 200 [(a1,a2),(b1,b2)]⟩]:=AD 200 ae _
 have c4:=Dd r 20 ae
 have c6:=pD 113 (fun x=>!ql x 200) ob (fun y _=>AY y)
 have c8:Fn prog 110 [⟨.int,200⟩,⟨.slice an,tb⟩] false [⟨.bool,jx 200 tb⟩]:=AD 200 ae _
 unfold bp GZ
 simp only
 cases h1:jx 200 [(a1,a2),(b1,b2)]<;>rw[h1] at c1
 ·skip
  refine fe func45 ntmps45 results45 fun hwf=>?_
  refine Sz ?_
  refine cw c1 ?_
  try simp (maxSteps:=9^9) only[go_sem]
  repeat refine AI ?_
  all_goals exact Ez
 by_cases h2:a1 < b1
 rotate_left
 ·rw[ak h2]
  have d2:=aj (p:=a1 ≥ b1) J
  refine fe func45 ntmps45 results45 fun hwf=>?_
  refine Cz c1 ?_
  try simp (maxSteps:=9^9) only[go_sem,d2]
  repeat refine AI ?_
  all_goals exact Ez
 rw[aj h2]
 have d2:=ak (p:=a1 ≥ b1) J
 by_cases h3:a2 < b2
 rotate_left
 ·rw[ak h3]
  have d3:=aj (p:=a2 ≥ b2) J
  refine fe func45 ntmps45 results45 fun hwf=>?_
  refine Cz c1 ?_
  refine Tz d2 ?_
  try simp (maxSteps:=9^9) only[go_sem,d3]
  repeat refine AI ?_
  all_goals exact Ez
 rw[aj h3]
 have d3:=ak (p:=a2 ≥ b2) J
 cases h4:ql r 20<;>rw[h4] at c4
 ·skip
  refine fe func45 ntmps45 results45 fun hwf=>?_
  refine Cz c1 ?_
  refine Tz d2 ?_
  refine Tz d3 ?_
  refine cw c4 ?_
  try simp (maxSteps:=9^9) only[go_sem]
  repeat refine AI ?_
  all_goals exact Ez
 by_cases h5:(ob.length:Int)<=4
 rotate_left
 ·rw[ak h5]
  have d5:=aj (p:=(ob.length:Int) > 4) J
  refine fe func45 ntmps45 results45 fun hwf=>?_
  refine Cz c1 ?_
  refine Tz d2 ?_
  refine Tz d3 ?_
  refine cw c4 ?_
  refine Sz ?_
  try simp (maxSteps:=9^9) only[go_sem,d5]
  repeat refine AI ?_
  all_goals exact Ez
 rw[aj h5]
 have d5:=ak (p:=(ob.length:Int) > 4) J
 cases h6:ob.any fun x=>!ql x 200<;>rw[h6] at c6
 rotate_left
 ·skip
  refine fe func45 ntmps45 results45 fun hwf=>?_
  refine Cz c1 ?_
  refine Tz d2 ?_
  refine Tz d3 ?_
  refine cw c4 ?_
  refine Sz ?_
  refine Tz d5 ?_
  refine cw c6 ?_
  try simp (maxSteps:=9^9) only[go_sem]
  repeat refine AI ?_
  all_goals exact Ez
 by_cases h7:(tb.length:Int)<=3
 rotate_left
 ·rw[ak h7]
  have d7:=ak (p:=(tb.length:Int)<=3) J
  refine fe func45 ntmps45 results45 fun hwf=>?_
  refine Cz c1 ?_
  refine Tz d2 ?_
  refine Tz d3 ?_
  refine cw c4 ?_
  refine Sz ?_
  refine Tz d5 ?_
  refine cw c6 ?_
  refine Sz ?_
  try simp (maxSteps:=9^9) only[go_sem,d7]
  repeat refine AI ?_
  all_goals exact Ez
 rw[aj h7]
 have d7:=aj (p:=(tb.length:Int)<=3) J
 cases h8:jx 200 tb<;>rw[h8] at c8
 ·skip
  refine fe func45 ntmps45 results45 fun hwf=>?_
  refine Cz c1 ?_
  refine Tz d2 ?_
  refine Tz d3 ?_
  refine cw c4 ?_
  refine Sz ?_
  refine Tz d5 ?_
  refine cw c6 ?_
  refine Sz ?_
  refine Tz d7 ?_
  refine cw c8 ?_
  try simp (maxSteps:=9^9) only[go_sem]
  repeat refine AI ?_
  all_goals exact Ez
 refine fe func45 ntmps45 results45 fun hwf=>?_
 refine Cz c1 ?_
 refine Tz d2 ?_
 refine Tz d3 ?_
 refine cw c4 ?_
 refine Sz ?_
 refine Tz d5 ?_
 refine cw c6 ?_
 refine Sz ?_
 refine Tz d7 ?_
 refine cw c8 ?_
 try simp (maxSteps:=9^9) only[go_sem]
 repeat refine AI ?_
 all_goals exact Ez
theorem gA (s:ey):Fn prog 45 [⟨cY,s⟩] false [⟨.bool,bp s⟩]:=zx s.1.1 s.1.2 s.2.1.1 s.2.1.2 s.2.2.1 s.2.2.2.1 s.2.2.2.2
theorem Bs (l:List DV):Fn prog 298 [⟨.slice an,l⟩] false [⟨.bool,!dD l⟩]:=by
 refine fe func298 ntmps298 results298 fun hwf=>?_
 refine Sz ?_
 refine cw (fm l) ?_
 try simp (maxSteps:=9^9) only[go_sem]
theorem O3 (l:List (List DV)) (hp:∀a ∈ l,dD a=true) (hn:l.length<=1000):Fn prog 187 [⟨iz,l⟩] true [⟨.slice aK,dX l⟩]:=by
 have c1:=pD 298 (fun a=>!dD a) l fun y _=>Bs y
 have e1:(l.any fun a=>!dD a)=false:=by
  rw[any_eq_false]
  intro a ha
  rw[hp a ha]; decide
 rw[e1] at c1
 have c2:Fn prog 251 [⟨iz,l⟩] false [⟨.bool,true⟩]:=by
  refine fe func251 ntmps251 results251 fun hwf=>?_
  refine Sz ?_
  refine cw c1 ?_
  try simp (maxSteps:=9^9) only[go_sem]
 have h16:∀a ∈ l,a.length<=16:=fun a ha=>jk (hp a ha)
 refine fe func187 ntmps187 results187 fun hwf=>?_
 refine Bz c2 ?_
 refine aF.intro _ _ _ (fun i:Nat=>⟨[(3,.row 0 0),(10,.sl (.slice an) l),(11,.sc (.int .i64 l.length)),(12,.sc (.int .i64 i))],[(0,.row 226 aK 0 true (qf l i))]⟩) (fun i=>i<=l.length) (fun i=>l.length - i) 0 ?_ (zero_le _) ?_
 ·exact WK
 ·rintro i hi
  have hlen:=yx l h16 i hi
  refine Nz ?_
  refine ao ?_ ?_<;>intro hA
  ·have hlt:i < l.length:=J
   have hm:=h16 _ (aS (t:=.slice an) hlt)
   have hel:=tN (nth (t:=.slice an) l i) i
   have c3:=vg (nth (t:=.slice an) l i) i J
   refine Cz c3 ?_
   refine az.mk (i+1) ?_ J J
   rw[qf]
   exact WK
  ·obtain rfl:i=l.length:=J
   all_goals exact Fz
theorem Of {x:Option Rat} (h:aY x) (hs:x.isSome=true):gV (oD x):=by
 show br (oD x)=true
 unfold br; rw[gr h]; exact hs
def lA (lo hi:Option Rat) (l:List DR) (x:Option Rat) (ok:Bool):List DR:=if (ok && (decide (0 < bG x lo) && decide (bG x hi < 0)))=true then l++[oD x] else l
theorem ug (lo hi:Option Rat) (l:List DR) (x:Option Rat) (ok:Bool):(lA lo hi l x ok).length<=l.length+1:=by
 unfold lA; split
 ·rw[length_append]; exact le_refl _
 ·exact Nat.le_succ _
theorem B3 {lo hi:Option Rat} {l:List DR} {x:Option Rat} {ok:Bool} (hx:aY x) (hs:ok=true->x.isSome=true) (hl:∀r ∈ l,gV r):∀r ∈ lA lo hi l x ok,gV r:=by
 intro r hr
 unfold lA at hr
 split at hr
 ·rename_i h
  rw[Bool.and_eq_true] at h
  rcases mem_append.1 hr with hr|hr
  ·exact hl r hr
  ·rw[mem_singleton.1 hr]; exact Of hx (hs h.1)
 ·exact hl r hr
theorem vh (ver:Nat) (lo hi x:Option Rat) (ok:Bool) (l:List DR) (h1:aY lo) (h2:aY hi) (hx:aY x) (hl:l.length<=1000000):n0 prog 186 [.agg (rC x),.sc (.bool ok),.ptr 0 0,.ptr 1 0,.ptr 2 0] [(0,.box (rC lo)),(1,.box (rC hi)),(2,.box [.row 3 ver]),(3,.row 40 au ver false l)] (.dY []) [(0,.box (rC lo)),(1,.box (rC hi)),(2,.box [.row 3 (ver+1)]),(3,.row 40 au (ver+1) false (lA lo hi l x ok))]:=by
 have c1:=bR x lo hx h1
 have c2:=bR x hi hx h2
 unfold lA
 cases ok
 ·rw[if_neg (fun h=>by cases h)]
  refine dq bK bA func186 rfl rfl _ ntmps186 _ results186 ah (by first|exact .inl rfl|exact .inr ⟨_,rfl⟩) fun β=>?_
  refine Sz ?_
  exact WK
 by_cases d1:0 < bG x lo
 rotate_left
 ·have d1':=ak d1
  rw[d1',if_neg (fun h=>by cases h)]
  refine dq bK bA func186 rfl rfl _ ntmps186 _ results186 ah (by first|exact .inl rfl|exact .inr ⟨_,rfl⟩) fun β=>?_
  refine Bz c1 ?_
  refine Tz d1' ?_
  exact WK
 have d1':=aj d1
 rw[d1']
 by_cases d2:bG x hi < 0
 rotate_left
 ·have d2':=ak d2
  rw[d2',if_neg (fun h=>by cases h)]
  refine dq bK bA func186 rfl rfl _ ntmps186 _ results186 ah (by first|exact .inl rfl|exact .inr ⟨_,rfl⟩) fun β=>?_
  refine Bz c1 ?_
  refine Tz d1' ?_
  refine cw c2 ?_
  refine Nz ?_
  refine Tz d2' ?_
  exact WK
 have d2':=aj d2
 rw[d2',if_pos (show (true && (true && true))=true from rfl)]
 refine dq bK bA func186 rfl rfl _ ntmps186 _ results186 ah (by first|exact .inl rfl|exact .inr ⟨_,rfl⟩) fun β=>?_
 refine Bz c1 ?_
 refine Tz d1' ?_
 refine cw c2 ?_
 refine Nz ?_
 refine Tz d2' ?_
 exact WK
def zW (lo hi:Option Rat) (l0:List DR) (a:List DV):Nat->List DR
 | 0=>l0
 | k+1=>lA lo hi (zW lo hi l0 a k) (aV (nth (t:=an) a k).1) true
def kB (lo hi:Option Rat) (l:List (List DV)):Nat->List DR
 | 0=>[]
 | k+1=>zW lo hi (kB lo hi l k) (nth (t:=.slice an) l k) (nth (t:=.slice an) l k).length
def tf (lo hi:Option Rat) (l0:List DR) (e:DE) (es:List DE):Nat->List DR
 | 0=>l0
 | k+1=>lA lo hi (tf lo hi l0 e es k) (rl e (nth (t:=aK) es k)) (rF e (nth (t:=aK) es k))
def R8 (lo hi:Option Rat) (y1 y2:Int) (l0:List DR) (es:List DE) (i:Nat):List DR :=
 lA lo hi (lA lo hi (tf lo hi l0 (nth (t:=aK) es i) (es.take i) (es.take i).length) (nr (nth (t:=aK) es i) y1) (n5 (nth (t:=aK) es i) y1)) (nr (nth (t:=aK) es i) y2) (n5 (nth (t:=aK) es i) y2)
def jD (lo hi:Option Rat) (y1 y2:Int) (l0:List DR) (es:List DE):Nat->List DR
 | 0=>l0
 | i+1=>R8 lo hi y1 y2 (jD lo hi y1 y2 l0 es i) es i
theorem zl (lo hi:Option Rat) (l0:List DR) (a:List DV):∀k,(zW lo hi l0 a k).length<=l0.length+k
 | 0=>le_refl _
 | k+1=>le_trans (ug _ _ _ _ _) (succ_le_succ (zl lo hi l0 a k))
theorem R9 {lo hi:Option Rat} {l0:List DR} {a:List DV} (h0:∀r ∈ l0,gV r) (ha:∀v ∈ a,bm v=true):∀k,k<=a.length->∀r ∈ zW lo hi l0 a k,gV r
 | 0,_=>h0
 | k+1,hk=>by
  obtain⟨k1,k2,_,_⟩:=eB (ha _ (aU (i:=k) J))
  exact B3 (dN J) (fun _=>rfl) (R9 h0 ha k J)
theorem Eb {lo hi:Option Rat} {l:List (List DV)} (h:∀a ∈ l,dD a=true):∀k,k<=l.length->(kB lo hi l k).length<=16 * k
 | 0,_=>le_refl _
 | k+1,hk=>by
  have h1:=Eb (lo:=lo) (hi:=hi) h k J
  have h2:=zl lo hi (kB lo hi l k) (nth (t:=.slice an) l k) (nth (t:=.slice an) l k).length
  have h3:=jk (h _ (aS (t:=.slice an) (i:=k) J))
  rw[kB]; omega
theorem I5 {lo hi:Option Rat} {l:List (List DV)} (h:∀a ∈ l,dD a=true):∀k,k<=l.length->∀r ∈ kB lo hi l k,gV r
 | 0,_=>fun r hr=>by cases hr
 | k+1,hk=>R9 (I5 h k J) (oT (h _ (aS (t:=.slice an) (i:=k) J))) _ (le_refl _)
theorem DF (lo hi:Option Rat) (l0:List DR) (e:DE) (es:List DE):∀k,(tf lo hi l0 e es k).length<=l0.length+k
 | 0=>le_refl _
 | k+1=>le_trans (ug _ _ _ _ _) (succ_le_succ (DF lo hi l0 e es k))
theorem Rn {lo hi:Option Rat} {l0:List DR} {e:DE} {es:List DE} (h0:∀r ∈ l0,gV r):∀k,∀r ∈ tf lo hi l0 e es k,gV r
 | 0=>h0
 | k+1=>B3 (Dl _ _) (fun h=>X8 h) (Rn h0 k)
theorem Ng (lo hi:Option Rat) (y1 y2:Int) (l0:List DR) (es:List DE) (i:Nat):(R8 lo hi y1 y2 l0 es i).length<=l0.length+i+2:=by
 have h1:=DF lo hi l0 (nth (t:=aK) es i) (es.take i) (es.take i).length
 have h2:(es.take i).length<=i:=by rw[length_take]; omega
 unfold R8
 exact le_trans (ug _ _ _ _ _) (succ_le_succ (le_trans (ug _ _ _ _ _) (succ_le_succ J)))
theorem aay {lo hi:Option Rat} {y1 y2:Int} {l0:List DR} {es:List DE} {i:Nat} (h0:∀r ∈ l0,gV r):∀r ∈ R8 lo hi y1 y2 l0 es i,gV r :=
 B3 (r8 _ _) (fun h=>LF h) (B3 (r8 _ _) (fun h=>LF h) (Rn h0 _))
theorem DD (lo hi:Option Rat) (y1 y2:Int) (l0:List DR) (es:List DE):∀i,i<=320->(jD lo hi y1 y2 l0 es i).length<=l0.length+322 * i
 | 0,_=>le_refl _
 | i+1,hi0=>by
  have h1:=DD lo hi y1 y2 l0 es i J
  have h2:=Ng lo hi y1 y2 (jD lo hi y1 y2 l0 es i) es i
  rw[jD]; omega
theorem PX {lo hi:Option Rat} {y1 y2:Int} {l0:List DR} {es:List DE} (h0:∀r ∈ l0,gV r):∀i,∀r ∈ jD lo hi y1 y2 l0 es i,gV r
 | 0=>h0
 | i+1=>aay (PX h0 i)
def n9 (b:DV × DV) (l:List (List DV)):List DR :=
 jD (aV b.1.1) (aV b.2.1) b.1.2 b.2.2 (kB (aV b.1.1) (aV b.2.1) l l.length) (dX l) (dX l).length++[oD (aV b.1.1),oD (aV b.2.1)]
def gL (b:DV × DV) (l:List (List DV)):List DR:=Co (nY (n9 b l))
section
variable {l:List DR}
theorem yn {m:Nat} (h:m < l.length):l.toArray[m]! = nth (t:=au) l m:=by
 rw[aM h,getElem!_pos l.toArray m (by simpa using h)]; rfl
theorem QS (hv:∀r ∈ l,gV r) (hs:∀i j,i < j->j < l.length->fQ (nth (t:=au) l i)<=fQ (nth (t:=au) l j)):∀m,m<=l.length->((fH id l.toArray m).Pairwise fun x y=>fQ x < fQ y)/\(∀i,i < m->nth (t:=au) l i ∈ fH id l.toArray m)/\∀x ∈ fH id l.toArray m,∃i,i < m/\x=nth (t:=au) l i
 | 0,_=>⟨Pairwise.nil,fun i h=>absurd h (not_lt_zero _),fun x h=>by cases h⟩
 | m+1,hm=>by
  obtain⟨i1,i2,i3⟩:=QS hv hs m J
  rw[fH,yn J]
  by_cases hk:pP id l.toArray m=true
  ·rw[if_pos hk]
   refine⟨?_,fun i hi=>?_,fun x hx=>?_⟩
   ·rw[pairwise_append]
    refine⟨i1,List.pairwise_singleton _ _,fun x hx y hy=>?_⟩
    rw[mem_singleton.1 hy]
    obtain⟨i,hi,rfl⟩:=i3 x hx
    have hne:nth (t:=au) l m ≠ nth (t:=au) l (m - 1):=fun e=>by
     have:=Ph (f:=(id:DR->DR)) (d:=l.toArray) (m:=m) J (by rw[yn J,yn J]; exact e)
     rw[this] at hk; cases hk
    have h1:fQ (nth (t:=au) l (m - 1))<=fQ (nth (t:=au) l m):=hs (m - 1) m J J
    have h2:fQ (nth (t:=au) l (m - 1)) ≠ fQ (nth (t:=au) l m):=fun e=>hne (key_inj (hv _ (aS (t:=au) J)) (hv _ (aS (t:=au) J)) e.symm)
    have h3:fQ (nth (t:=au) l i)<=fQ (nth (t:=au) l (m - 1)):=by
     by_cases e:i=m - 1
     ·rw[e]; exact Rat.le_refl
     ·exact hs i (m - 1) J J
    grind
   ·by_cases e:i < m
    ·exact mem_append_left _ (i2 i e)
    ·rw[show i=m from J]
     exact List.mem_append_right _ (mem_singleton.2 rfl)
   ·rcases mem_append.1 hx with hx|hx
    ·obtain⟨i,hi,e⟩:=i3 x hx
     exact⟨i,J,e⟩
    ·exact⟨m,J,mem_singleton.1 hx⟩
  ·rw[if_neg hk,append_nil]
   refine⟨i1,fun i hi=>?_,fun x hx=>?_⟩
   ·by_cases e:i < m
    ·exact i2 i e
    ·have hm0:m ≠ 0:=fun h0=>hk (yZ (.inl h0))
     have he:nth (t:=au) l m=nth (t:=au) l (m - 1):=Classical.byContradiction fun hne=>hk (yZ (.inr (by rw[yn J,yn J]; exact hne)))
     rw[show i=m from J,he]
     exact i2 (m - 1) J
   ·obtain⟨i,hi,e⟩:=i3 x hx
    exact⟨i,J,e⟩
theorem XD (l:List DR):∀i j,i < j->j < (nY l).length->fQ (nth (t:=au) (nY l) i)<=fQ (nth (t:=au) (nY l) j):=by
 intro i j hij hj
 have hp:(nY l).Pairwise fun x y=>Qp x y=true:=by
  refine List.pairwise_mergeSort ?_ ?_ _
  ·intro a b c h1 h2
   exact ir.2 (Rat.le_trans (ir.1 h1) (ir.1 h2))
  ·intro a b
   rw[Bool.or_eq_true,ir,ir]
   exact Rat.le_total
 rw[pairwise_iff_getElem] at hp
 rw[aM (t:=au) J,aM (t:=au) hj]
 exact ir.1 (hp i j J hj hij)
theorem MF (hv:∀r ∈ l,gV r):((Co (nY l)).Pairwise fun x y=>fQ x < fQ y)/\∀x,x ∈ Co (nY l) ↔ x ∈ l:=by
 obtain⟨a,b,c⟩:=QS (l:=nY l) (fun r hr=>hv r (qN.1 hr)) (XD l) (nY l).length (le_refl _)
 refine⟨a,fun x=>⟨fun h=>?_,fun h=>?_⟩⟩
 ·exact qN.1 (MD h)
 ·obtain⟨i,hi,rfl⟩:=getElem_of_mem (qN.2 h)
  have:=b i hi
  rw[aM (t:=au) hi] at this
  exact this
end
structure gT (q lo hi:Rat):Prop where
 den:∃z:Int,q * (LC:Rat)=(z:Rat)
 lo:lo<=q
 hi:q<=hi
theorem gT.gX {q lo hi:Rat} (h:gT q lo hi) (h1:(-1000:Rat)<=lo) (h2:hi<=1000):gX q:=by
 obtain⟨⟨z,hz⟩,h3,h4⟩:=h
 have hp:(0:Rat)<=(LC:Rat):=abA (by have:=dC; omega)
 refine⟨z,⟨?_,?_⟩,hz⟩
 ·have:=Rat.mul_le_mul_of_nonneg_right (show (-1000:Rat)<=q by grind) hp
  rw[hz] at this
  refine Rat.intCast_le_intCast.1 ?_
  rw[Rat.intCast_neg,intCast_mul]
  rw[show ((1000:Int):Rat)=1000 from rfl]; grind
 ·have:=Rat.mul_le_mul_of_nonneg_right (show q<=(1000:Rat) by grind) hp
  rw[hz] at this
  refine Rat.intCast_le_intCast.1 ?_
  rw[intCast_mul]
  rw[show ((1000:Int):Rat)=1000 from rfl]; grind
section
variable {lo hi:Rat} {l:List DR} {x:Option Rat} {ok:Bool}
def Ab (lo hi:Rat) (r:DR):Prop:=∃q,aw r=some q/\gT q lo hi
theorem si {p q:Rat}:bG (some p) (some q) < 0 ↔ p < q:=by
 show eI p q < 0 ↔ _
 have:=qR (p:=p) (q:=q)
 constructor
 ·intro h; exact not_le.1 fun h2=>by have:=this.2 h2; omega
 ·intro h; exact Int.not_le.1 fun h2=>not_le.2 h (this.1 h2)
theorem Ib {p q:Rat}:0 < bG (some p) (some q) ↔ q < p:=by
 show 0 < eI p q ↔ _
 have:=mu (p:=p) (q:=q)
 constructor
 ·intro h; exact not_le.1 fun h2=>by have:=this.2 h2; omega
 ·intro h; exact Int.not_le.1 fun h2=>not_le.2 h (this.1 h2)
theorem GJ (hl:∀r ∈ l,Ab lo hi r) (hx:aY x) (hz:ok=true->∃q,x=some q/\∃z:Int,q * (LC:Rat)=(z:Rat)):∀r ∈ lA (some lo) (some hi) l x ok,Ab lo hi r:=by
 intro r hr
 unfold lA at hr
 split at hr
 ·rename_i hc
  rcases mem_append.1 hr with hr|hr
  ·exact hl r hr
  ·rw[mem_singleton.1 hr]
   rw[Bool.and_eq_true,Bool.and_eq_true,decide_eq_true_iff,decide_eq_true_iff] at hc
   obtain⟨q,rfl,hq⟩:=hz hc.1
   exact⟨q,gr hx,hq,Rat.le_of_lt (Ib.1 hc.2.1),Rat.le_of_lt (si.1 hc.2.2)⟩
 ·exact hl r hr
theorem oP:∀r ∈ l,r ∈ lA (some lo) (some hi) l x ok:=by
 intro r hr
 unfold lA
 split
 ·exact mem_append_left _ hr
 ·exact hr
theorem IA {q:Rat} (h1:lo < q) (h2:q < hi):oD (some q) ∈ lA (some lo) (some hi) l (some q) true:=by
 unfold lA
 rw[aj (Ib.2 h1),aj (si.2 h2)]
 exact List.mem_append_right _ (mem_singleton.2 rfl)
end
structure kh (b:DV × DV) (a:List (List DV)):Prop where
 x1:-100<=(b.1.1:Int)/\(b.1.1:Int)<=100
 y1:-100<=(b.1.2:Int)/\(b.1.2:Int)<=100
 x2:-100<=(b.2.1:Int)/\(b.2.1:Int)<=100
 y2:-100<=(b.2.2:Int)/\(b.2.2:Int)<=100
 lt:(b.1.1:Int) < (b.2.1:Int)
 po:∀p ∈ a,dD p=true
 ed:∀p ∈ a,∀n,∀e ∈ px p n,gE e
section
variable {b:DV × DV} {a:List (List DV)}
abbrev bL (b:DV × DV):Rat:=((b.1.1:Int):Rat)
abbrev bH (b:DV × DV):Rat:=((b.2.1:Int):Rat)
theorem Xn (h:kh b a):∀k,k<=a.length->∀e ∈ qf a k,gE e
 | 0,_,e,he=>by cases he
 | k+1,hk,e,he=>by
  rw[qf] at he
  rcases mem_append.1 he with he|he
  ·exact Xn h k J e he
  ·exact h.ed _ (aS (t:=.slice an) (i:=k) J) k e he
theorem abX {e f:DE} (he:gE e) (hf:gE f):rF e f=true->∃q,rl e f=some q/\∃z:Int,q * (LC:Rat)=(z:Rat):=by
 intro h
 unfold rl
 rw[if_pos h]
 by_cases hne:bJ e=bJ f
 ·unfold rF at h
  rw[abS he hf hne] at h
  cases h
 ·obtain⟨e1,e2⟩:=W1 he hf hne
  exact⟨_,e1,e2⟩
theorem Xt {e:DE} (he:gE e) {y:Int} (hy:-100<=y/\y<=100):n5 e y=true->∃q,nr e y=some q/\∃z:Int,q * (LC:Rat)=(z:Rat):=by
 intro h
 unfold nr
 rw[if_pos h]
 have hne:eH e ≠ 0:=by
  unfold n5 at h
  rw[Bool.and_eq_true,not_eq_true',decide_eq_false_iff_not] at h
  have key:∀a c:Int,¬ a=c->c - a ≠ 0:=fun a c h=>J
  exact key _ _ h.1
 obtain⟨e1,e2⟩:=Wt he hy hne
 exact⟨_,e1,e2⟩
theorem Pn (z:Int):∃q,aV z=some q/\∃t:Int,q * (LC:Rat)=(t:Rat):=⟨_,rfl,z * LC,by rw[intCast_mul]⟩
theorem WT {l0:List DR} {p:List DV} (h0:∀r ∈ l0,Ab (bL b) (bH b) r) (hp:∀v ∈ p,bm v=true):∀k,k<=p.length->∀r ∈ zW (aV b.1.1) (aV b.2.1) l0 p k,Ab (bL b) (bH b) r
 | 0,_=>h0
 | k+1,hk=>by
  obtain⟨k1,k2,_,_⟩:=eB (hp _ (aU (i:=k) J))
  exact GJ (WT h0 hp k J) (dN J) fun _=>Pn _
theorem Xp (h:kh b a):∀k,k<=a.length->∀r ∈ kB (aV b.1.1) (aV b.2.1) a k,Ab (bL b) (bH b) r
 | 0,_=>fun r hr=>by cases hr
 | k+1,hk=>WT (Xp h k J) (oT (h.po _ (aS (t:=.slice an) (i:=k) J))) _ (le_refl _)
theorem V7 {l0:List DR} {e:DE} {es:List DE} (h0:∀r ∈ l0,Ab (bL b) (bH b) r) (he:gE e) (hs:∀f ∈ es,gE f):∀k,k<=es.length->∀r ∈ tf (aV b.1.1) (aV b.2.1) l0 e es k,Ab (bL b) (bH b) r
 | 0,_=>h0
 | k+1,hk=>GJ (V7 h0 he hs k J) (Dl _ _) (abX he (hs _ (aS (t:=aK) J)))
theorem Xa (h:kh b a) {l0:List DR} {es:List DE} (h0:∀r ∈ l0,Ab (bL b) (bH b) r) (hs:∀f ∈ es,gE f):∀i,i<=es.length->∀r ∈ jD (aV b.1.1) (aV b.2.1) b.1.2 b.2.2 l0 es i,Ab (bL b) (bH b) r
 | 0,_=>h0
 | i+1,hi=>by
  have hi':=hs _ (aS (t:=aK) (show i < es.length from J))
  exact GJ (GJ (V7 (Xa h h0 hs i J) hi' (fun f hf=>hs f (List.mem_of_mem_take hf)) _ (le_refl _)) (r8 _ _) (Xt hi' h.y1)) (r8 _ _) (Xt hi' h.y2)
theorem uq (h:kh b a):∀e ∈ dX a,gE e:=Xn h _ (le_refl _)
theorem Xd (h:kh b a):∀r ∈ n9 b a,Ab (bL b) (bH b) r:=by
 intro r hr
 have hlt:bL b<=bH b:=Rat.intCast_le_intCast.2 (by have:=h.lt; omega)
 have h1:=h.x1
 have h2:=h.x2
 have key:∀z:Int,-100<=z/\z<=100->z.natAbs<=1000000:=fun z h=>J
 rcases mem_append.1 (show r ∈ jD _ _ _ _ _ _ _++_ from hr) with hr|hr
 ·exact Xa h (Xp h _ (le_refl _)) (uq h) _ (le_refl _) r hr
 ·simp only[mem_cons,List.mem_nil_iff,or_false] at hr
  rcases hr with rfl|rfl
  ·obtain⟨q,e1,e2⟩:=Pn b.1.1
   cases e1
   exact⟨_,gr (dN (key _ h1)),e2,Rat.le_refl,hlt⟩
  ·obtain⟨q,e1,e2⟩:=Pn b.2.1
   cases e1
   exact⟨_,gr (dN (key _ h2)),e2,hlt,Rat.le_refl⟩
theorem W6 (h:kh b a):∀r ∈ n9 b a,gV r:=fun r hr=>by
 obtain⟨q,e,_⟩:=Xd h r hr
 show (aw r).isSome=true
 rw[e]; rfl
def bn (b:DV × DV) (a:List (List DV)) (k:Nat):Rat:=fQ (nth (t:=au) (gL b a) k)
theorem Ee (h:kh b a) {r:DR}:r ∈ gL b a ↔ r ∈ n9 b a:=(MF (W6 h)).2 r
theorem ur (h:kh b a) {k:Nat} (hk:k < (gL b a).length):aw (nth (t:=au) (gL b a) k)=some (bn b a k)/\gT (bn b a k) (bL b) (bH b):=by
 obtain⟨q,e,hq⟩:=Xd h _ ((Ee h).1 (aS (t:=au) hk))
 have e2:bn b a k=q:=by unfold bn fQ; rw[e]; rfl
 rw[e2]
 exact⟨e,hq⟩
theorem Jw (h:kh b a) {i j:Nat} (hij:i < j) (hj:j < (gL b a).length):bn b a i < bn b a j:=by
 have hp:=(MF (W6 h)).1
 rw[pairwise_iff_getElem] at hp
 unfold bn
 rw[aM (t:=au) J,aM (t:=au) hj]
 exact hp i j (show i < (gL b a).length from J) hj hij
theorem GD (h:kh b a) {k:Nat} (hk:k < (gL b a).length):gX (bn b a k):=by
 refine (ur h hk).2.gX ?_ ?_
 ·have:=h.x1
  exact Rat.intCast_le_intCast.2 (show -1000<=(b.1.1:Int) from J)
 ·have:=h.x2
  exact Rat.intCast_le_intCast.2 (show (b.2.1:Int)<=1000 from J)
theorem QT (h:kh b a) {k:Nat} (hk:k+1 < (gL b a).length) {q:Rat} (hq:oD (some q) ∈ n9 b a) (hs:small q):q<=bn b a k\/bn b a (k+1)<=q:=by
 obtain⟨j,hj,e⟩:=getElem_of_mem ((Ee h).2 hq)
 have e2:bn b a j=q:=by
  unfold bn fQ
  rw[aM (t:=au) hj,e,show oD (some q)=fo q from rfl,dT hs]; rfl
 by_cases c:j<=k
 ·refine .inl ?_
  rw[<-e2]
  by_cases d:j=k
  ·rw[d]; exact Rat.le_refl
  ·exact Rat.le_of_lt (Jw h J J)
 ·refine .inr ?_
  rw[<-e2]
  by_cases d:j=k+1
  ·rw[d]; exact Rat.le_refl
  ·exact Rat.le_of_lt (Jw h J hj)
theorem My {lo hi:Rat} {l0:List DR} {e:DE} {es:List DE}:∀k,∀r ∈ l0,r ∈ tf (some lo) (some hi) l0 e es k
 | 0,_,h=>h
 | k+1,r,h=>oP r (My k r h)
theorem Tl {lo hi q:Rat} {l0:List DR} {e:DE} {es:List DE} {j:Nat} (hc:rl e (nth (t:=aK) es j)=some q) (hb:rF e (nth (t:=aK) es j)=true) (h1:lo < q) (h2:q < hi):∀k,j < k->oD (some q) ∈ tf (some lo) (some hi) l0 e es k
 | 0,h=>absurd h (not_lt_zero _)
 | k+1,h=>by
  by_cases d:j=k
  ·subst d
   rw[tf,hc,hb]
   exact IA h1 h2
  ·exact oP _ (Tl hc hb h1 h2 k J)
theorem X5 {lo hi:Rat} {y1 y2:Int} {l0:List DR} {es:List DE} {i:Nat}:∀r ∈ l0,r ∈ R8 (some lo) (some hi) y1 y2 l0 es i:=fun r h=>oP r (oP r (My _ r h))
theorem D6 {lo hi:Rat} {y1 y2:Int} {l0:List DR} {es:List DE} {i:Nat} {r:DR}:∀n,i<=n->r ∈ jD (some lo) (some hi) y1 y2 l0 es i->r ∈ jD (some lo) (some hi) y1 y2 l0 es n
 | 0,h,hr=>by rw[show i=0 from J] at hr; exact hr
 | n+1,h,hr=>by
  by_cases d:i=n+1
  ·rw[<-d]; exact hr
  ·exact X5 _ (D6 n J hr)
theorem Io (h:kh b a) {i j:Nat} (hj:j < i) (hi:i < (dX a).length) {q:Rat} (hc:rl (nth (t:=aK) (dX a) i) (nth (t:=aK) (dX a) j)=some q) (hb:rF (nth (t:=aK) (dX a) i) (nth (t:=aK) (dX a) j)=true) (h1:bL b < q) (h2:q < bH b):oD (some q) ∈ n9 b a:=by
 refine mem_append_left _ (D6 (i:=i+1) _ J ?_)
 have e:nth (t:=aK) ((dX a).take i) j=nth (t:=aK) (dX a) j:=by
  rw[aM (t:=aK) (by rw[length_take]; omega),aM (t:=aK) J,List.getElem_take]
 exact oP _ (oP _ (Tl (j:=j) (by rw[e]; exact hc) (by rw[e]; exact hb) h1 h2 _ (by rw[length_take]; omega)))
theorem Uq {i:Nat} (hi:i < (dX a).length) {q:Rat} {y:Int} (hy:y=b.1.2\/y=b.2.2) (hc:nr (nth (t:=aK) (dX a) i) y=some q) (hb:n5 (nth (t:=aK) (dX a) i) y=true) (h1:bL b < q) (h2:q < bH b):oD (some q) ∈ n9 b a:=by
 refine mem_append_left _ (D6 (i:=i+1) _ J ?_)
 rcases hy with rfl|rfl
 ·refine oP _ ?_
  rw[hc,hb]
  exact IA h1 h2
 ·show _ ∈ lA _ _ _ _ _
  rw[hc,hb]
  exact IA h1 h2
end
theorem R6 {b:DV × DV} {l:List (List DV)} (hb:b.1.1.natAbs<=1000000/\b.2.1.natAbs<=1000000) (hp:∀a ∈ l,dD a=true):∀r ∈ n9 b l,gV r:=by
 intro r hr
 rcases mem_append.1 (show r ∈ jD _ _ _ _ _ _ _++_ from hr) with hr|hr
 ·exact PX (I5 hp _ (le_refl _)) _ r hr
 ·rcases mem_cons.1 hr with rfl|hr
  ·exact Of (dN hb.1) rfl
  ·rw[mem_singleton.1 hr]; exact Of (dN hb.2) rfl
theorem Tt {l:List (List DV)} (hp:∀a ∈ l,dD a=true) (hl:l.length < 20):(dX l).length<=320:=by
 have:=yx l (fun a ha=>jk (hp a ha)) l.length (le_refl _)
 show (qf l l.length).length<=320
 omega
theorem Lu (b:DV × DV) (l:List (List DV)) (hb:b.1.1.natAbs<=1000000/\b.2.1.natAbs<=1000000) (hy:(-1000<=b.1.2/\b.1.2<=1000)/\(-1000<=b.2.2/\b.2.2<=1000)) (hp:∀a ∈ l,dD a=true) (hl:l.length < 20):Fn prog 119 [⟨tE,b⟩,⟨iz,l⟩] false [⟨.slice au,gL b l⟩]:=by
 have hok:=R6 hb hp
 have hel:=Tt hp hl
 have hed:=Rw (fun a ha=>oT (hp a ha)) l.length (le_refl _)
 rw[show qf l l.length=dX l from rfl] at hed
 have cE:=O3 l hp J
 have hqo:=I5 (lo:=aV b.1.1) (hi:=aV b.2.1) hp
 have hql:=Eb (lo:=aV b.1.1) (hi:=aV b.2.1) hp
 obtain⟨⟨b1,b2⟩,⟨b3,b4⟩⟩:=b
 have k1:=dN (n:=b1) hb.1
 have k2:=dN (n:=b3) hb.2
 have c1:=(fw b1).sh
 have c2:=(fw b3).sh
 simp only at hqo hql
 unfold gL
 have hev:n9 ((b1,b2),(b3,b4)) l=jD (aV b1) (aV b3) b2 b4 (kB (aV b1) (aV b3) l l.length) (dX l) (dX l).length++[oD (aV b1),oD (aV b3)]:=rfl
 rw[hev] at hok ⊢
 generalize dX l=es at *
 generalize hlo:aV b1=lo at *
 generalize hhi:aV b3=hi at *
 refine fe func119 ntmps119 results119 fun hwf=>?_
 refine Cz c1 ?_
 refine cw c2 ?_
 refine Sz ?_
 refine aF.intro _ _ _ (fun i:Nat=>⟨[(1,.sl (.slice an) l),(2,.ptr 4 0),(5,.ptr 0 0),(6,.ptr 1 0),(7,.ptr 2 0),(8,.iQ 186 [0,1,2]),(28,.sl (.slice an) l),(29,.sc (.int .i64 l.length)),(30,.sc (.int .i64 i))],[(0,.box (rC lo)),(1,.box (rC hi)),(2,.box [.row 3 0]),(3,.row 40 au 0 false (kB lo hi l i)),(4,.box [.sc (.int .i64 b1),.sc (.int .i64 b2),.sc (.int .i64 b3),.sc (.int .i64 b4)])]⟩) (fun i=>i<=l.length) (fun i=>l.length - i) 0 ?_ (zero_le _) ?_
 ·refine Wk.mk [(0,1),(1,2),(2,4),(3,3),(4,0)] ?_
  refine Nz ?_
  try (and_intros<;>first|rfl|omega|exact⟨_,rfl⟩)
 ·rintro i hi0
  have hqli:=hql i hi0
  refine Nz ?_
  refine ao ?_ ?_<;>intro hA
  ·have hlt:i < l.length:=J
   have hpa:=hp _ (aS (t:=.slice an) hlt)
   have hal:=jk hpa
   have hao:=oT hpa
   have e:kB lo hi l (i+1)=zW lo hi (kB lo hi l i) (nth (t:=.slice an) l i) (nth (t:=.slice an) l i).length:=rfl
   refine Sz ?_
   refine aF.intro _ _ _ (fun k:Nat=>⟨[(1,.sl (.slice an) l),(2,.ptr 4 0),(5,.ptr 0 0),(6,.ptr 1 0),(7,.ptr 2 0),(8,.iQ 186 [0,1,2]),(28,.sl (.slice an) l),(29,.sc (.int .i64 l.length)),(30,.sc (.int .i64 i)),(34,.sl an (nth (t:=.slice an) l i)),(35,.sc (.int .i64 (nth (t:=.slice an) l i).length)),(36,.sc (.int .i64 k))],[(0,.box (rC lo)),(1,.box (rC hi)),(2,.box [.row 3 0]),(3,.row 40 au 0 false (zW lo hi (kB lo hi l i) (nth (t:=.slice an) l i) k)),(4,.box [.sc (.int .i64 b1),.sc (.int .i64 b2),.sc (.int .i64 b3),.sc (.int .i64 b4)])]⟩) (fun k=>k<=(nth (t:=.slice an) l i).length) (fun k=>(nth (t:=.slice an) l i).length - k) 0 ?_ (zero_le _) ?_
   ·exact WK
   ·rintro k hk
    have hpl:=zl lo hi (kB lo hi l i) (nth (t:=.slice an) l i) k
    refine Nz ?_
    refine ao ?_ ?_<;>intro hB
    ·have hkt:k < (nth (t:=.slice an) l i).length:=J
     obtain⟨m1,m2,_,_⟩:=eB (hao _ (aU hkt))
     have c3:=(fw (nth (t:=an) (nth (t:=.slice an) l i) k).1).sh
     have c4:=vh 0 lo hi (aV (nth (t:=an) (nth (t:=.slice an) l i) k).1) true (zW lo hi (kB lo hi l i) (nth (t:=.slice an) l i) k) k1 k2 (dN J) J
     have e2:zW lo hi (kB lo hi l i) (nth (t:=.slice an) l i) (k+1)=lA lo hi (zW lo hi (kB lo hi l i) (nth (t:=.slice an) l i) k) (aV (nth (t:=an) (nth (t:=.slice an) l i) k).1) true:=rfl
     refine Cz c3 ?_
     refine jw.mk (c4) ?_
     refine Sz ?_
     refine az.mk (k+1) ?_ J J
     rw[e2]
     exact WK
    ·obtain rfl:k=(nth (t:=.slice an) l i).length:=J
     refine Sz ?_
     refine az.mk (i+1) ?_ J J
     rw[e]
     exact WK
  ·obtain rfl:i=l.length:=J
   refine Bz cE ?_
   have hq0:=hql l.length (le_refl _)
   generalize kB lo hi l l.length=L0 at *
   refine aF.intro _ _ _ (fun i:Nat=>⟨[(2,.ptr 4 0),(5,.ptr 0 0),(6,.ptr 1 0),(7,.ptr 2 0),(8,.iQ 186 [0,1,2]),(13,.sl aK es),(49,.sl aK es),(50,.sc (.int .i64 es.length)),(51,.sc (.int .i64 i))],[(0,.box (rC lo)),(1,.box (rC hi)),(2,.box [.row 3 0]),(3,.row 40 au 0 false (jD lo hi b2 b4 L0 es i)),(4,.box [.sc (.int .i64 b1),.sc (.int .i64 b2),.sc (.int .i64 b3),.sc (.int .i64 b4)])]⟩) (fun i=>i<=es.length) (fun i=>es.length - i) 0 ?_ (zero_le _) ?_
   ·exact WK
   ·rintro i hi1
    have hfl:=DD lo hi b2 b4 L0 es i J
    refine Nz ?_
    refine ao ?_ ?_<;>intro hB
    ·have hlt:i < es.length:=J
     have hv:=hed _ (aS (t:=aK) hlt)
     have c5:=Gh (nth (t:=aK) es i) b2 hv hy.1
     have c6:=Gh (nth (t:=aK) es i) b4 hv hy.2
     have e:jD lo hi b2 b4 L0 es (i+1)=lA lo hi (lA lo hi (tf lo hi (jD lo hi b2 b4 L0 es i) (nth (t:=aK) es i) (es.take i) (es.take i).length) (nr (nth (t:=aK) es i) b2) (n5 (nth (t:=aK) es i) b2)) (nr (nth (t:=aK) es i) b4) (n5 (nth (t:=aK) es i) b4):=rfl
     have htl:(es.take i).length=i:=by rw[length_take]; omega
     have hte:∀x ∈ es.take i,vE x=true:=fun x hx=>hed x (List.mem_of_mem_take hx)
     have t0:(es.take ((i:Int)).toNat).drop ((0:Int)).toNat=es.take i:=by rw[Int.toNat_natCast]; rfl
     refine Sz ?_
     refine aF.intro _ _ _ (fun k:Nat=>⟨[(2,.ptr 4 0),(5,.ptr 0 0),(6,.ptr 1 0),(7,.ptr 2 0),(8,.iQ 186 [0,1,2]),(13,.sl aK es),(15,.ptr 5 0),(49,.sl aK es),(50,.sc (.int .i64 es.length)),(51,.sc (.int .i64 i)),(58,.sl aK (es.take i)),(59,.sc (.int .i64 (es.take i).length)),(60,.sc (.int .i64 k))],[(0,.box (rC lo)),(1,.box (rC hi)),(2,.box [.row 3 0]),(3,.row 40 au 0 false (tf lo hi (jD lo hi b2 b4 L0 es i) (nth (t:=aK) es i) (es.take i) k)),(4,.box [.sc (.int .i64 b1),.sc (.int .i64 b2),.sc (.int .i64 b3),.sc (.int .i64 b4)]),(5,.box [.sc (.int .i64 (nth (t:=aK) es i).1.1),.sc (.int .i64 (nth (t:=aK) es i).1.2),.sc (.int .i64 (nth (t:=aK) es i).2.1.1),.sc (.int .i64 (nth (t:=aK) es i).2.1.2),.sc (.int .i64 (nth (t:=aK) es i).2.2.1),.sc (.bool (nth (t:=aK) es i).2.2.2)])]⟩) (fun k=>k<=(es.take i).length) (fun k=>(es.take i).length - k) 0 ?_ (zero_le _) ?_
     ·exact WK
     ·rintro k hk
      have hpl:=DF lo hi (jD lo hi b2 b4 L0 es i) (nth (t:=aK) es i) (es.take i) k
      refine Nz ?_
      refine ao (fun hC=>?_) (fun hC=>?_)
      ·have hkt:k < (es.take i).length:=J
       have hv2:=hte _ (aS (t:=aK) hkt)
       have c3:=Jk (nth (t:=aK) es i) (nth (t:=aK) (es.take i) k) hv hv2
       have c4:=vh 0 lo hi (rl (nth (t:=aK) es i) (nth (t:=aK) (es.take i) k)) (rF (nth (t:=aK) es i) (nth (t:=aK) (es.take i) k)) (tf lo hi (jD lo hi b2 b4 L0 es i) (nth (t:=aK) es i) (es.take i) k) k1 k2 (Dl _ _) J
       have e2:tf lo hi (jD lo hi b2 b4 L0 es i) (nth (t:=aK) es i) (es.take i) (k+1)=lA lo hi (tf lo hi (jD lo hi b2 b4 L0 es i) (nth (t:=aK) es i) (es.take i) k) (rl (nth (t:=aK) es i) (nth (t:=aK) (es.take i) k)) (rF (nth (t:=aK) es i) (nth (t:=aK) (es.take i) k)):=rfl
       refine Cz c3 ?_
       refine jw.mk (c4) ?_
       refine Sz ?_
       refine az.mk (k+1) ?_ J J
       rw[e2]
       exact WK
      ·obtain rfl:k=(es.take i).length:=J
       generalize hL:tf lo hi (jD lo hi b2 b4 L0 es i) (nth (t:=aK) es i) (es.take i) (es.take i).length=L at *
       have c7:=vh 0 lo hi (nr (nth (t:=aK) es i) b2) (n5 (nth (t:=aK) es i) b2) L k1 k2 (r8 _ _) J
       have hl2:=ug lo hi L (nr (nth (t:=aK) es i) b2) (n5 (nth (t:=aK) es i) b2)
       have c8:=vh 1 lo hi (nr (nth (t:=aK) es i) b4) (n5 (nth (t:=aK) es i) b4) (lA lo hi L (nr (nth (t:=aK) es i) b2) (n5 (nth (t:=aK) es i) b2)) k1 k2 (r8 _ _) J
       refine Cz c5 ?_
       refine jw.mk (c7) ?_
       refine Cz c6 ?_
       refine jw.mk (c8) ?_
       refine Sz ?_
       refine az.mk (i+1) ?_ J J
       rw[e]
       exact WK
    ·obtain rfl:i=es.length:=J
     generalize jD lo hi b2 b4 L0 es es.length=L at *
     have c9:=Gm (L++[oD lo,oD hi]) (by rw[length_append]; exact Nat.lt_of_lt_of_le (by decide:0 < 2) (Nat.le_add_left _ _)) (by rw[length_append]; show L.length+2<=_; omega) hok
     refine Sz ?_
     refine cw c9 ?_
     all_goals exact Fz
def qm (l:List (List DV)) (x:Option Rat):Nat->List DP
 | 0=>[]
 | k+1=>if (oE (nth (t:=.slice an) l k) x).2.2=true then qm l x k++[(oD (oE (nth (t:=.slice an) l k) x).1,oD (oE (nth (t:=.slice an) l k) x).2.1)] else qm l x k
theorem yE (l:List (List DV)) (x:Option Rat):∀k,(qm l x k).length<=k
 | 0=>le_refl _
 | k+1=>by
  have:=yE l x k
  rw[qm]
  split
  ·rw[length_append,List.length_singleton]; omega
  ·omega
theorem Ck (l:List (List DV)) (x:Option Rat):∀k,∀s ∈ qm l x k,gB s
 | 0,s,h=>by cases h
 | k+1,s,h=>by
  rw[qm] at h
  split at h
  ·rcases mem_append.1 h with h|h
   ·exact Ck l x k s h
   ·rw[mem_singleton.1 h]
    exact⟨iu (EY _ _).1,iu (EY _ _).2⟩
  ·exact Ck l x k s h
def z8 (l:List (List DV)) (x:Option Rat):List DP:=mv ax H0 (qm l x l.length)
theorem aa5 (l:List (List DV)) (x:Option Rat):∀s ∈ z8 l x,gB s:=fun s h=>Ck l x _ s (uU h)
theorem NT (l:List (List DV)) (x:Option Rat):(z8 l x).length<=l.length:=by
 unfold z8; rw[Bh]; exact yE _ _ _
def lX (S:List DP) (x low top:Option Rat):Nat->Option Rat × List bz.den
 | 0=>(low,[])
 | k+1=>(iN (lX S x low top k).1 (aw (nth (t:=ax) S k).2),yu x top (lX S x low top k).1 (lX S x low top k).2 (aw (nth (t:=ax) S k).1))
theorem Bq {S:List DP} {x low top:Option Rat} (h:aY low):∀k,aY (lX S x low top k).1
 | 0=>h
 | k+1=>qW (Bq h k) (aI _)
theorem DM (S:List DP) (x low top:Option Rat):∀k,(lX S x low top k).2.length<=k
 | 0=>le_refl _
 | k+1=>le_trans (Nw _ _ _ _ _) (succ_le_succ (DM S x low top k))
def Bc (b:DV × DV) (l:List (List DV)) (x:Option Rat):List bz.den :=
 yu x (aV b.2.2) (lX (z8 l x) x (aV b.1.2) (aV b.2.2) (z8 l x).length).1 (lX (z8 l x) x (aV b.1.2) (aV b.2.2) (z8 l x).length).2 (aV b.2.2)
theorem O8 (b:DV × DV) (l:List (List DV)) (x:Option Rat) (hb:b.1.2.natAbs<=1000000/\b.2.2.natAbs<=1000000) (hp:∀a ∈ l,dD a=true) (hl:l.length < 20) (hx:aY x):Fn prog 121 [⟨tE,b⟩,⟨iz,l⟩,⟨au,oD x⟩] false [⟨.slice bz,Bc b l x⟩]:=by
 obtain⟨⟨b1,b2⟩,⟨b3,b4⟩⟩:=b
 have k1:=dN (n:=b2) hb.1
 have k2:=dN (n:=b4) hb.2
 have c1:=(fw b2).sh
 have c2:=(fw b4).sh
 have hs:=Um (qm l x l.length) (Nat.lt_of_le_of_lt (yE l x _) hl) (Ck l x _)
 rw[show mv ax H0 (qm l x l.length)=z8 l x from rfl] at hs
 have hso:=aa5 l x
 have hsl:=NT l x
 unfold Bc
 dsimp only
 refine fe func121 ntmps121 results121 fun hwf=>?_
 refine Nz ?_
 refine aF.intro _ _ _ (fun i:Nat=>⟨[(3,.ptr 1 0),(5,.ptr 2 0),(7,.row 0 0),(20,.sl (.slice an) l),(21,.sc (.int .i64 l.length)),(22,.sc (.int .i64 i))],[(0,.row 231 ax 0 false (qm l x i)),(1,.box [.sc (.int .i64 b1),.sc (.int .i64 b2),.sc (.int .i64 b3),.sc (.int .i64 b4)]),(2,.box (rC x))]⟩) (fun i=>i<=l.length) (fun i=>l.length - i) 0 ?_ (zero_le _) ?_
 ·refine Wk.mk [(0,2),(1,0),(2,1)] ?_
  refine Nz ?_
  try (and_intros<;>first|rfl|omega|exact⟨_,rfl⟩)
 ·rintro i hi
  have hlen:=yE l x i
  refine Nz ?_
  refine ao ?_ ?_<;>intro hA
  ·have hlt:i < l.length:=J
   have c3:=JJ (nth (t:=.slice an) l i) x (hp _ (aS (t:=.slice an) hlt)) hx
   have e:qm l x (i+1)=if (oE (nth (t:=.slice an) l i) x).2.2=true then qm l x i++[(oD (oE (nth (t:=.slice an) l i) x).1,oD (oE (nth (t:=.slice an) l i) x).2.1)] else qm l x i:=rfl
   generalize oE (nth (t:=.slice an) l i) x=s at *
   obtain⟨s1,s2,s3⟩:=s
   cases s3
   ·rw[if_neg (fun h=>by cases h)] at e
    refine Cz c3 ?_
    refine az.mk (i+1) ?_ J J
    rw[e]
    exact WK
   ·rw[if_pos rfl] at e
    refine Cz c3 ?_
    refine az.mk (i+1) ?_ J J
    rw[e]
    exact WK
  ·obtain rfl:i=l.length:=J
   clear hlen
   generalize qm l x l.length=S0 at *
   generalize z8 l x=S at *
   refine Sz ?_
   refine aO.r (k:=0) (ver:=0) (o:=false) (hs) ?_
   refine Cz c1 ?_
   refine cw c2 ?_
   refine Sz ?_
   refine aF.intro _ _ _ (fun i:Nat=>⟨[(13,.ptr 1 0),(14,.ptr 0 0),(15,.ptr 2 0),(16,.iQ 198 [0,1,2,3]),(53,.sl ax S),(54,.sc (.int .i64 S.length)),(55,.sc (.int .i64 i))],[(0,.box (rC (aV b4))),(1,.box (rC (lX S x (aV b2) (aV b4) i).1)),(2,.box [.row 4 0]),(3,.box (rC x)),(4,.row 172 bz 0 false (lX S x (aV b2) (aV b4) i).2)]⟩) (fun i=>i<=S.length) (fun i=>S.length - i) 0 ?_ (zero_le _) ?_
   ·refine Wk.mk [(0,4),(1,3),(2,6),(3,2),(4,5)] ?_
    refine Nz ?_
    try (and_intros<;>first|rfl|omega|exact⟨_,rfl⟩)
   ·rintro i hi
    have hlen:=DM S x (aV b2) (aV b4) i
    have hok:=Bq (S:=S) (x:=x) (top:=aV b4) k1 i
    refine Nz ?_
    refine ao ?_ ?_<;>intro hA
    ·have hlt:i < S.length:=J
     have hg:=hso _ (aS (t:=ax) hlt)
     have e:lX S x (aV b2) (aV b4) (i+1)=(iN (lX S x (aV b2) (aV b4) i).1 (aw (nth (t:=ax) S i).2),yu x (aV b4) (lX S x (aV b2) (aV b4) i).1 (lX S x (aV b2) (aV b4) i).2 (aw (nth (t:=ax) S i).1)):=rfl
     have c4:=JM 0 x (aV b4) (lX S x (aV b2) (aV b4) i).1 (aw (nth (t:=ax) S i).1) (lX S x (aV b2) (aV b4) i).2 hx k2 hok (aI _) J
     have c5:=pH (lX S x (aV b2) (aV b4) i).1 (aw (nth (t:=ax) S i).2) hok (aI _)
     simp only[rC] at c4
     rw[hg.1] at c4
     rw[hg.2] at c5
     refine Sz ?_
     refine jw.mk (c4) ?_
     refine Cz c5 ?_
     refine az.mk (i+1) ?_ J J
     rw[e]
     exact WK
    ·obtain rfl:i=S.length:=J
     have c4:=JM 0 x (aV b4) (lX S x (aV b2) (aV b4) S.length).1 (aV b4) (lX S x (aV b2) (aV b4) S.length).2 hx k2 hok k2 J
     refine Sz ?_
     refine jw.mk (c4) ?_
     all_goals exact Fz
@[go_sem] def bC (x:DP):List AV:=[.sc (.bool x.1.1.1),.sl .int x.1.1.2,.sl .int x.1.2,.sc (.bool x.2.1.1),.sl .int x.2.1.2,.sl .int x.2.2]
def D0 (lo hi:Option Rat) (e:DE):DP:=(oD (kY e lo),oD (kY e hi))
theorem NJ (lo hi:Option Rat) (e:DE):gB (D0 lo hi e):=⟨iu (uA _ _),iu (uA _ _)⟩
def fC:DP:=(oD none,oD none)
theorem Nu:gB fC:=⟨iu eu,iu eu⟩
def qj (lo hi:Option Rat) (s:(DP × DP) × Int) (e:DE):(DP × DP) × Int :=
 if nZ e lo hi=true then ((if e.2.2.2=true then (D0 lo hi e,s.1.2) else (s.1.1,D0 lo hi e)),s.2+1) else s
def lD (es:List DE) (lo hi:Option Rat):Nat->(DP × DP) × Int
 | 0=>((fC,fC),0)
 | k+1=>qj lo hi (lD es lo hi k) (nth (t:=aK) es k)
theorem Zy {lo hi:Option Rat} {s:(DP × DP) × Int} {e:DE} (h:gB s.1.1/\gB s.1.2):gB (qj lo hi s e).1.1/\gB (qj lo hi s e).1.2:=by
 unfold qj
 split
 ·split
  ·exact⟨NJ _ _ _,h.2⟩
  ·exact⟨h.1,NJ _ _ _⟩
 ·exact h
theorem Qk (es:List DE) (lo hi:Option Rat):∀k,gB (lD es lo hi k).1.1/\gB (lD es lo hi k).1.2
 | 0=>⟨Nu,Nu⟩
 | k+1=>Zy (Qk es lo hi k)
theorem Md (es:List DE) (lo hi:Option Rat):∀k,0<=(lD es lo hi k).2/\(lD es lo hi k).2<=k
 | 0=>⟨Int.le_refl _,Int.le_refl _⟩
 | k+1=>by
  have:=Md es lo hi k
  show 0<=(qj lo hi (lD es lo hi k) (nth (t:=aK) es k)).2/\(qj lo hi (lD es lo hi k) (nth (t:=aK) es k)).2<=((k+1:Nat):Int)
  unfold qj
  split
  ·dsimp only; omega
  ·omega
def bkL (l:List DV) (n:Int) (lo hi:Option Rat):(DP × DP) × Int:=lD (px l n) lo hi (px l n).length
def lP (l:List (List DV)) (lo hi:Option Rat):Nat->List DK
 | 0=>[]
 | k+1=>if (bkL (nth (t:=.slice an) l k) k lo hi).2=2 then lP l lo hi k++[(bkL (nth (t:=.slice an) l k) k lo hi).1] else lP l lo hi k
theorem yP (l:List (List DV)) (lo hi:Option Rat):∀k,(lP l lo hi k).length<=k
 | 0=>le_refl _
 | k+1=>by
  have:=yP l lo hi k
  rw[lP]
  split
  ·rw[length_append,List.length_singleton]; omega
  ·omega
theorem Bt (l:List (List DV)) (lo hi:Option Rat):∀k,∀s ∈ lP l lo hi k,gK s
 | 0,s,h=>by cases h
 | k+1,s,h=>by
  rw[lP] at h
  split at h
  ·rcases mem_append.1 h with h|h
   ·exact Bt l lo hi k s h
   ·rw[mem_singleton.1 h]
    exact Qk _ _ _ _
  ·exact Bt l lo hi k s h
def pY (l:List (List DV)) (lo hi:Option Rat):List DK:=mv dK KF (lP l lo hi l.length)
theorem ET (l:List (List DV)) (lo hi:Option Rat):∀s ∈ pY l lo hi,gK s:=fun s h=>Bt l lo hi _ s (uU h)
theorem IM (l:List (List DV)) (lo hi:Option Rat):(pY l lo hi).length<=l.length:=by
 unfold pY; rw[Bh]; exact yP _ _ _ _
theorem Ld (l:List (List DV)) (lo hi:Option Rat) (hp:∀a ∈ l,dD a=true) (hl:l.length < 20) (h1:aY lo) (h2:aY hi):Fn prog 194 [⟨iz,l⟩,⟨au,oD lo⟩,⟨au,oD hi⟩] false [⟨.slice dK,pY l lo hi⟩]:=by
 have hs:=UL (lP l lo hi l.length) (Nat.lt_of_le_of_lt (yP l lo hi _) hl) (Bt l lo hi _)
 rw[show mv dK KF (lP l lo hi l.length)=pY l lo hi from rfl] at hs
 refine fe func194 ntmps194 results194 fun hwf=>?_
 refine Nz ?_
 refine aF.intro _ _ _ (fun i:Nat=>⟨[(4,.ptr 1 0),(5,.ptr 2 0),(7,.row 0 0),(16,.sl (.slice an) l),(17,.sc (.int .i64 l.length)),(18,.sc (.int .i64 i))],[(0,.row 238 dK 0 false (lP l lo hi i)),(1,.box (rC lo)),(2,.box (rC hi))]⟩) (fun i=>i<=l.length) (fun i=>l.length - i) 0 ?_ (zero_le _) ?_
 ·refine Wk.mk [(0,2),(1,0),(2,1)] ?_
  refine Nz ?_
  try (and_intros<;>first|rfl|omega|exact⟨_,rfl⟩)
 ·rintro i hi0
  have hlen:=yP l lo hi i
  refine Nz ?_
  refine ao ?_ ?_<;>intro hA
  ·have hlt:i < l.length:=J
   have hpa:=hp _ (aS (t:=.slice an) hlt)
   have c1:=vg (nth (t:=.slice an) l i) i (le_trans (jk hpa) ae)
   have hel:=le_trans (tN (nth (t:=.slice an) l i) i) (jk hpa)
   have heo:=JU (area:=(i:Int)) (oT hpa)
   have e:lP l lo hi (i+1)=if (lD (px (nth (t:=.slice an) l i) i) lo hi (px (nth (t:=.slice an) l i) i).length).2=2 then lP l lo hi i++[(lD (px (nth (t:=.slice an) l i) i) lo hi (px (nth (t:=.slice an) l i) i).length).1] else lP l lo hi i:=rfl
   generalize px (nth (t:=.slice an) l i) i=es at *
   refine Bz c1 ?_
   refine aF.intro _ _ _ (fun k:Nat=>⟨[(4,.ptr 1 0),(5,.ptr 2 0),(7,.row 0 0),(10,.ptr 3 0),(11,.sc (.int .i64 (lD es lo hi k).2)),(16,.sl (.slice an) l),(17,.sc (.int .i64 l.length)),(18,.sc (.int .i64 i)),(26,.sl aK es),(27,.sc (.int .i64 es.length)),(28,.sc (.int .i64 k))],[(0,.row 238 dK 0 false (lP l lo hi i)),(1,.box (rC lo)),(2,.box (rC hi)),(3,.box (bC (lD es lo hi k).1.1++bC (lD es lo hi k).1.2))]⟩) (fun k=>k<=es.length) (fun k=>es.length - k) 0 ?_ (zero_le _) ?_
   ·exact WK
   ·rintro k hk
    have hcn:=Md es lo hi k
    refine Nz ?_
    refine ao ?_ ?_<;>intro hB
    ·have hkt:k < es.length:=J
     have hv:=heo _ (aS (t:=aK) hkt)
     have c2:=rA _ hv lo hi h1 h2
     have c3:=lO _ hv lo h1
     have c4:=lO _ hv hi h2
     have e2:lD es lo hi (k+1)=qj lo hi (lD es lo hi k) (nth (t:=aK) es k):=rfl
     unfold qj D0 at e2
     cases g:nZ (nth (t:=aK) es k) lo hi<;>rw[g] at c2 e2
     ·rw[if_neg (fun h=>by cases h)] at e2
      refine Cz c2 ?_
      refine az.mk (k+1) ?_ J J
      rw[e2]
      exact WK
     ·rw[if_pos rfl] at e2
      generalize kY (nth (t:=aK) es k) lo=z1 at *
      generalize kY (nth (t:=aK) es k) hi=z2 at *
      cases gw:(nth (t:=aK) es k).2.2.2<;>rw[gw] at e2
      ·rw[if_neg (fun h=>by cases h)] at e2
       refine Cz c2 ?_
       refine cw c3 ?_
       refine Bz c4 ?_
       refine Tz gw ?_
       refine az.mk (k+1) ?_ J J
       rw[e2]
       exact WK
      ·rw[if_pos rfl] at e2
       refine Cz c2 ?_
       refine cw c3 ?_
       refine Bz c4 ?_
       refine Tz gw ?_
       refine az.mk (k+1) ?_ J J
       rw[e2]
       exact WK
    ·obtain rfl:k=es.length:=J
     refine Nz ?_
     refine ao (fun hC=>?_) (fun hC=>?_)
     ·rw[if_pos hC] at e
      refine Sz ?_
      refine az.mk (i+1) ?_ J J
      rw[e]
      exact WK
     ·rw[if_neg hC] at e
      refine Sz ?_
      refine az.mk (i+1) ?_ J J
      rw[e]
      exact WK
  ·obtain rfl:i=l.length:=J
   clear hlen
   generalize lP l lo hi l.length=S0 at *
   generalize pY l lo hi=S at *
   refine Sz ?_
   refine aO.r (k:=0) (ver:=0) (o:=false) (hs) ?_
   all_goals exact Fz
abbrev dZ:=bf.den
def tc (lo hi:Option Rat) (ce:DP) (l:List dZ) (x y:DP):List dZ :=
 if (qg y x && qg ce x)=true then l++[(oD lo,oD hi,x.1,x.2,(if qg y ce=true then ce else y))] else l
theorem MW (lo hi:Option Rat) (ce:DP) (l:List dZ) (x y:DP):(tc lo hi ce l x y).length<=l.length+1:=by
 unfold tc; split
 ·rw[length_append]; exact le_refl _
 ·exact Nat.le_succ _
theorem kn {r:DR} (h:gF r):Fn prog 84 [⟨au,r⟩] true [⟨au,r⟩]:=by
 have:=oK (aw r) (aI r)
 rwa [h] at this
theorem JS (ver:Nat) (lo hi:Option Rat) (ce x y:DP) (l:List dZ) (h1:aY lo) (h2:aY hi) (hc:gB ce) (hx:gB x) (hy:gB y) (hl:l.length<=1000):n0 prog 192 [.agg (bC x),.agg (bC y),.ptr 0 0,.ptr 1 0,.ptr 2 0,.ptr 3 0] [(0,.box (bC ce)),(1,.box [.row 4 ver]),(2,.box (rC lo)),(3,.box (rC hi)),(4,.row 170 bf ver false l)] (.dY []) [(0,.box (bC ce)),(1,.box [.row 4 (ver+1)]),(2,.box (rC lo)),(3,.box (rC hi)),(4,.row 170 bf (ver+1) false (tc lo hi ce l x y))]:=by
 have c1:=qK y x hy hx
 have c2:=qK ce x hc hx
 have c3:=qK y ce hy hc
 have o1:=oK lo h1
 have o2:=oK hi h2
 have o3:=kn hx.1
 have o4:=kn hx.2
 have o5:=kn hy.1
 have o6:=kn hy.2
 have o7:=kn hc.1
 have o8:=kn hc.2
 unfold tc
 generalize qg y x=a1 at *
 generalize qg ce x=a2 at *
 generalize qg y ce=a3 at *
 obtain⟨x1,x2⟩:=x
 obtain⟨y1,y2⟩:=y
 obtain⟨z1,z2⟩:=ce
 cases a1
 ·rw[if_neg (fun h=>by cases h)]
  refine dq bK bA func192 rfl rfl _ ntmps192 _ results192 ah (by first|exact .inl rfl|exact .inr ⟨_,rfl⟩) fun β=>?_
  refine Cz c1 ?_
  exact WK
 cases a2
 ·rw[if_neg (fun h=>by cases h)]
  refine dq bK bA func192 rfl rfl _ ntmps192 _ results192 ah (by first|exact .inl rfl|exact .inr ⟨_,rfl⟩) fun β=>?_
  refine Cz c1 ?_
  refine cw c2 ?_
  refine Sz ?_
  exact WK
 rw[if_pos (show (true && true)=true from rfl)]
 cases a3
 ·rw[if_neg (fun h=>by cases h)]
  refine dq bK bA func192 rfl rfl _ ntmps192 _ results192 ah (by first|exact .inl rfl|exact .inr ⟨_,rfl⟩) fun β=>?_
  refine Cz c1 ?_
  refine cw c2 ?_
  refine Cz c3 ?_
  refine cw o1 ?_
  refine Cz o2 ?_
  refine cw o3 ?_
  refine Cz o4 ?_
  refine cw o5 ?_
  refine Cz o6 ?_
  exact WK
 ·rw[if_pos rfl]
  refine dq bK bA func192 rfl rfl _ ntmps192 _ results192 ah (by first|exact .inl rfl|exact .inr ⟨_,rfl⟩) fun β=>?_
  refine Cz c1 ?_
  refine cw c2 ?_
  refine Cz c3 ?_
  refine cw o1 ?_
  refine Cz o2 ?_
  refine cw o3 ?_
  refine Cz o4 ?_
  refine cw o7 ?_
  refine Cz o8 ?_
  exact WK
def jE (S:List DK) (lo hi:Option Rat) (fl ce:DP):Nat->DP × List dZ
 | 0=>(fl,[])
 | k+1=>((if qg (nth (t:=dK) S k).2 (jE S lo hi fl ce k).1=true then (nth (t:=dK) S k).2 else (jE S lo hi fl ce k).1),tc lo hi ce (jE S lo hi fl ce k).2 (jE S lo hi fl ce k).1 (nth (t:=dK) S k).1)
theorem ES (S:List DK) (lo hi:Option Rat) (fl ce:DP):∀k,(jE S lo hi fl ce k).2.length<=k
 | 0=>le_refl _
 | k+1=>le_trans (MW _ _ _ _ _ _) (succ_le_succ (ES S lo hi fl ce k))
theorem B8 {S:List DK} (hS:∀s ∈ S,gK s) (lo hi:Option Rat) {fl ce:DP} (hf:gB fl):∀k,k<=S.length->gB (jE S lo hi fl ce k).1
 | 0,_=>hf
 | k+1,hk=>by
  show gB (if _ then _ else _)
  split
  ·exact (hS _ (aS (t:=dK) (i:=k) J)).2
  ·exact B8 hS lo hi hf k J
def wx (y:Int):DP:=(oD (aV y),oD (aV y))
theorem Cc {y:Int} (h:y.natAbs<=1000000):gB (wx y):=⟨iu (dN h),iu (dN h)⟩
def AA (b:DV × DV) (l:List (List DV)) (lo hi:Option Rat):List dZ :=
 tc lo hi (wx b.2.2) (jE (pY l lo hi) lo hi (wx b.1.2) (wx b.2.2) (pY l lo hi).length).2 (jE (pY l lo hi) lo hi (wx b.1.2) (wx b.2.2) (pY l lo hi).length).1 (wx b.2.2)
theorem Iz (b:DV × DV) (l:List (List DV)) (lo hi:Option Rat):(AA b l lo hi).length<=l.length+1 :=
 le_trans (MW _ _ _ _ _ _) (succ_le_succ (le_trans (ES _ _ _ _ _ _) (IM _ _ _)))
theorem Iq (b:DV × DV) (l:List (List DV)) (lo hi:Option Rat) (hb:b.1.2.natAbs<=1000000/\b.2.2.natAbs<=1000000) (hp:∀a ∈ l,dD a=true) (hl:l.length < 20) (h1:aY lo) (h2:aY hi):Fn prog 120 [⟨tE,b⟩,⟨iz,l⟩,⟨au,oD lo⟩,⟨au,oD hi⟩] false [⟨.slice bf,AA b l lo hi⟩]:=by
 obtain⟨⟨b1,b2⟩,⟨b3,b4⟩⟩:=b
 have k1:=Cc (y:=b2) hb.1
 have k2:=Cc (y:=b4) hb.2
 have c1:=(Mh b4).sh
 have c2:=(Mh b2).sh
 have c3:=Ld l lo hi hp hl h1 h2
 have hS:=ET l lo hi
 have hSl:=IM l lo hi
 rw[show (oD (aV b4),oD (aV b4))=wx b4 from rfl] at c1
 rw[show (oD (aV b2),oD (aV b2))=wx b2 from rfl] at c2
 unfold AA
 dsimp only
 generalize wx b2=fl at *
 generalize wx b4=ce at *
 generalize pY l lo hi=S at *
 refine fe func120 ntmps120 results120 fun hwf=>?_
 refine Cz c1 ?_
 refine cw c2 ?_
 refine Bz c3 ?_
 refine aF.intro _ _ _ (fun i:Nat=>⟨[(9,.ptr 1 0),(10,.ptr 0 0),(11,.iQ 192 [0,1,2,3]),(12,.ptr 5 0),(28,.sl dK S),(29,.sc (.int .i64 S.length)),(30,.sc (.int .i64 i))],[(0,.box (bC ce)),(1,.box [.row 4 0]),(2,.box (rC lo)),(3,.box (rC hi)),(4,.row 170 bf 0 false (jE S lo hi fl ce i).2),(5,.box (bC (jE S lo hi fl ce i).1))]⟩) (fun i=>i<=S.length) (fun i=>S.length - i) 0 ?_ (zero_le _) ?_
 ·refine Wk.mk [(0,5),(1,4),(2,1),(3,2),(4,3),(5,6)] ?_
  refine Nz ?_
  try (and_intros<;>first|rfl|omega|exact⟨_,rfl⟩)
 ·rintro i hi0
  have hlen:=ES S lo hi fl ce i
  have hok:=B8 hS lo hi (ce:=ce) k1 i hi0
  refine Nz ?_
  refine ao ?_ ?_<;>intro hA
  ·have hlt:i < S.length:=J
   have hg:=hS _ (aS (t:=dK) hlt)
   have e:jE S lo hi fl ce (i+1)=((if qg (nth (t:=dK) S i).2 (jE S lo hi fl ce i).1=true then (nth (t:=dK) S i).2 else (jE S lo hi fl ce i).1),tc lo hi ce (jE S lo hi fl ce i).2 (jE S lo hi fl ce i).1 (nth (t:=dK) S i).1):=rfl
   have c4:=JS 0 lo hi ce (jE S lo hi fl ce i).1 (nth (t:=dK) S i).1 (jE S lo hi fl ce i).2 h1 h2 k2 hok hg.1 J
   have c5:=qK (nth (t:=dK) S i).2 (jE S lo hi fl ce i).1 hg.2 hok
   cases g:qg (nth (t:=dK) S i).2 (jE S lo hi fl ce i).1<;>rw[g] at c5 e
   ·rw[if_neg (fun h=>by cases h)] at e
    refine Sz ?_
    refine jw.mk (c4) ?_
    refine Cz c5 ?_
    refine az.mk (i+1) ?_ J J
    rw[e]
    exact WK
   ·rw[if_pos rfl] at e
    refine Sz ?_
    refine jw.mk (c4) ?_
    refine Cz c5 ?_
    refine az.mk (i+1) ?_ J J
    rw[e]
    exact WK
  ·obtain rfl:i=S.length:=J
   have c4:=JS 0 lo hi ce (jE S lo hi fl ce S.length).1 ce (jE S lo hi fl ce S.length).2 h1 h2 k2 hok k2 J
   refine Sz ?_
   refine jw.mk (c4) ?_
   all_goals exact Fz
abbrev fU:=bz.den
def gC (k:dZ):Prop:=gF k.1/\gF k.2.1/\gF k.2.2.1/\gF k.2.2.2.1/\gF k.2.2.2.2.1/\gF k.2.2.2.2.2
def gW (w:fU):Prop:=gF w.1/\gF w.2.1/\gF w.2.2
def Z8:DR:=oD none
def xp (k:dZ) (x:DR):DR × DR × Bool :=
 if l6 x k.1=true then (k.2.2.1,k.2.2.2.2.1,true) else if l6 x k.2.1=true then (k.2.2.2.1,k.2.2.2.2.2,true) else (Z8,Z8,false)
theorem aac {k:dZ} (h:gC k) (x:DR):gF (xp k x).1/\gF (xp k x).2.1:=by
 obtain⟨h1,h2,h3,h4,h5,h6⟩:=h
 unfold xp
 split
 ·exact⟨h3,h5⟩
 ·split
  ·exact⟨h4,h6⟩
  ·exact⟨iu eu,iu eu⟩
theorem KS (k:dZ) (hk:gC k) (x:DR):Fn prog 199 [⟨bf,k⟩,⟨au,x⟩] false [⟨au,(xp k x).1⟩,⟨au,(xp k x).2.1⟩,⟨.bool,(xp k x).2.2⟩]:=by
 obtain⟨h1,h2,h3,h4,h5,h6⟩:=hk
 have c1:=ph x k.1
 have c2:=ph x k.2.1
 have o3:=kn h3
 have o4:=kn h4
 have o5:=kn h5
 have o6:=kn h6
 unfold xp
 clear h1 h2 h3 h4 h5 h6
 obtain⟨k1,k2,k3,k4,k5,k6⟩:=k
 dsimp only at *
 cases e1:l6 x k1<;>rw[e1] at c1
 rotate_left
 ·rw[if_pos rfl]
  refine fe func199 ntmps199 results199 fun hwf=>?_
  refine Cz c1 ?_
  refine cw o3 ?_
  refine Sz ?_
  refine cw o5 ?_
  all_goals exact Fz
 rw[if_neg (fun h=>by cases h)]
 cases e2:l6 x k2<;>rw[e2] at c2
 ·rw[if_neg (fun h=>by cases h)]
  refine fe func199 ntmps199 results199 fun hwf=>?_
  refine Cz c1 ?_
  refine cw c2 ?_
  refine Nz ?_
  exact⟨⟨rfl,rfl⟩,rfl⟩
 ·rw[if_pos rfl]
  refine fe func199 ntmps199 results199 fun hwf=>?_
  refine Cz c1 ?_
  refine cw c2 ?_
  refine Cz o4 ?_
  refine cw o6 ?_
  all_goals exact Fz
def Sj (k:dZ) (w:fU):Bool:=(xp k w.1).2.2 && decide (bG (iN (aw (xp k w.1).1) (aw w.2.1)) (bP (aw (xp k w.1).2.1) (aw w.2.2)) < 0)
theorem Az (k:dZ) (w:fU) (hk:gC k) (hw:gW w):Fn prog 122 [⟨bf,k⟩,⟨bz,w⟩] false [⟨.bool,Sj k w⟩]:=by
 have c1:=KS k hk w.1
 have hs:=aac hk w.1
 unfold Sj
 generalize xp k w.1=s at *
 obtain⟨s1,s2,s3⟩:=s
 obtain⟨w1,w2,w3⟩:=w
 obtain⟨q1,q2,q3⟩:=hw
 obtain⟨q4,q5⟩:=hs
 dsimp only at *
 have c2:=pH (aw s1) (aw w2) (aI _) (aI _)
 have c3:=kQ (aw s2) (aw w3) (aI _) (aI _)
 have c4:=bR (iN (aw s1) (aw w2)) (bP (aw s2) (aw w3)) (qW (aI _) (aI _)) (lp (aI _) (aI _))
 rw[q4,q2] at c2
 rw[q5,q3] at c3
 generalize iN (aw s1) (aw w2)=m1 at *
 generalize bP (aw s2) (aw w3)=m2 at *
 cases s3
 ·refine fe func122 ntmps122 results122 fun hwf=>?_
  refine Sz ?_
  refine cw c1 ?_
  all_goals exact Fz
 ·refine fe func122 ntmps122 results122 fun hwf=>?_
  refine Cz c1 ?_
  refine cw c2 ?_
  refine Cz c3 ?_
  refine cw c4 ?_
  all_goals exact Fz
end DW

section
open Go.RowKit Go.Lib
theorem Qj (c:Nat) (hc:c<=1000000000) (w:World):Calls prog 237 #[.int .u64 1,.int .u64 c] w fun e w'=>e=.returned (.tuple #[.int .u64 0,.int .u64 c])/\w'=w:=by
 have h1:=Mul64.maskN c J
 rw[Nat.mod_eq_of_lt J] at h1
 have h2:bits .and .u64 1 4294967295=1:=by have:=Mul64.maskN 1 J; simpa using this
 have h4:(c:Int) % 18446744073709551616=c:=J
 have h5:bits .and .u64 0 4294967295=0:=by have:=Mul64.maskN 0 J; simpa using this
 have h3:(c:Int) / 4294967296=0:=J
 go_enter func237,ntmps237
 go_wp2
 go_ret2
 simp[h1,h2,h3,h4,h5,IntKind.wrap_u64]
theorem mul_one (c:Nat) (hc:c<=1000000000) (w:World):Calls prog 158 #[.int .u64 1,.int .u64 c] w fun e w'=>e=.returned (.tuple #[.int .u64 0,.int .u64 c])/\w'=w:=by
 have c64:=Qj c hc w
 go_enter func158,ntmps158
 go_wp2_with fail
 refine c64.mono ?_
 rintro e w' ⟨rfl,rfl⟩
 go_wp2
 go_ret2
 exact⟨rfl,rfl⟩
theorem CU (v:Int) (b off cp c:Nat) (w:World) (hb:b < w.heap.size) (hv:w.cell? ⟨b,off,none⟩=some (.int .i64 v)) (hc:c<=1000000000) :
  Calls prog 86 #[.slice (some ⟨b,off,none⟩) 1 cp,.int .i64 c] w fun e w'=>∃g,e=.returned (.slice (some ⟨g,0,none⟩) c c)/\w.heap.size<=g/\w'.heap[g]? = some (.cells (replicate c (Value.int .i64 v)).toArray 3 (0,0))/\Below w.heap.size w w':=by
 have cm:=mul_one c hc w
 have hw:IntKind.u64.wrap (c:Int)=c:=by rw[IntKind.wrap_u64]; omega
 have hw2:IntKind.i64.wrap (c:Int)=c:=by rw[IntKind.wrap_i64]; omega
 have hw3:IntKind.u64.wrap 1=1:=ae
 have hn:¬ (c:Int) < 0:=J
 have hn2:¬ (9223372036854775807:Int) < c:=J
 obtain⟨i0,hi,hz0,hz1,hz2⟩:=info_parts XN
 go_enter func86,ntmps86
 go_wp2_with fail
 refine cm.mono ?_
 rintro e w' ⟨rfl,he⟩
 rw[he]
 clear he
 go_wp2_with (at_make; refine wpList_make_full _ rfl _ _ 31 rfl w.heap.size 3 i0 _ 1 Tryz.underlying31 hi hz0 hz1 _ _ _ _ c rfl rfl rfl rfl (by rw[hz2]; omega) (by unfold maxLen; omega) (le_refl _) ?_)
 intro w1 hown hgrow
 have hb1:Below w.heap.size w w1:=(Below.refl _ _).grown hgrow (le_refl _) ah
 obtain⟨L,hLl,hg1⟩:∃L:List Value,L.length=c/\w1.heap[w.heap.size]? = some (.cells L.toArray 3 (0,0)):=by
  obtain⟨_,⟨h1,_⟩|⟨g,cap,cur,h1,_,h3,_,_,h6,_⟩⟩:=hown
  ·cases h1
  ·injection h1 with h1 _ h2
   injection h1 with h1
   injection h1 with h1
   subst h1 h2
   exact⟨cur.toList,by rw[length_toList,h6]; omega,by rw[h3]⟩
 have HG1:=Lib.hid hg1
 have hcv:w1.cell? ⟨b,off,none⟩=some (.int .i64 v):=(hb1.cell (p:=⟨b,off,none⟩) hb).trans hv
 clear hown hgrow hg1 hi hz0 hz1 hz2
 obtain⟨X,hX⟩:∃X,X=replicate (min 1 c) (Value.int .i64 v):=⟨_,rfl⟩
 have HXl:X.length=min 1 c:=by rw[hX]; simp
 have HX:=Lib.hid hX
 clear hX
 have hc1:=run_copy_row (P:=prog) w1 31 31 3 3 w.heap.size 0 c c ⟨b,off,none⟩ 1 cp L.toArray 3 X Tryz.underlying31 ai HG1.out (by rw[HXl])
  (fun j u hj=>by
   rw[HX.out] at hj
   have hj0:j=0:=by have:=(List.getElem?_eq_some_iff.1 hj).1; simp at this; omega
   subst hj0
   rw[getElem?_replicate] at hj
   split at hj
   ·injection hj with hj; subst hj; simpa [Addr.add] using hcv
   ·cases hj) (by simp; omega) (fun u hu=>by rw[HX.out] at hu; rw[(mem_replicate.1 hu).2]; rfl)
 obtain⟨w2,hw2⟩:∃w2,w2=w1.setRow w.heap.size (L.toArray.toList.take 0++X++L.toArray.toList.drop (0+X.length)).toArray:=⟨_,rfl⟩
 rw[<-hw2] at hc1
 have hb2:Below w.heap.size w w2:=by rw[hw2]; exact below_setRow hb1 (le_refl _) _
 have HG2:Hid (w2.heap[w.heap.size]? = some (.cells (replicate (min 1 c) (Value.int .i64 v)++L.drop (min 1 c)).toArray 3 (0,0))):=by
  refine Lib.hid ?_
  rw[hw2,setRow_heap w1 w.heap.size _ _ _ _ HG1.out,HXl,HX.out]
  simp
 rw[HXl] at hc1
 clear hw2
 go_wp2_with fail
 go_loopw [8] (fun s8 wr=>∃n:Nat,n<=c/\(1<=n\/c=0)/\s8=.int .i64 n/\Hid (wr.heap[w.heap.size]? = some (.cells (replicate n (Value.int .i64 v)++L.drop n).toArray 3 (0,0)))/\Hid (Below w.heap.size w wr)) (fun s8 _=>c - (intOf s8).toNat)
 case atStart=>exact⟨min 1 c,J,J,rfl,HG2,Lib.hid hb2⟩
 case round =>
  obtain⟨n,hn1,hn2,rfl,HG,HB⟩:=hrel
  by_cases hlt:n < c
  ·have hltz:(n:Int) < (c:Int):=J
   obtain⟨Y,hY⟩:∃Y,Y=replicate n (Value.int .i64 v)++L.drop n:=⟨_,rfl⟩
   obtain⟨Z,hZ⟩:∃Z,Z=replicate (min n (c - n)) (Value.int .i64 v):=⟨_,rfl⟩
   have hYl:Y.length=c:=by rw[hY]; simp; omega
   have hZl:Z.length=min n (c - n):=by rw[hZ]; simp
   rw[<-hY] at HG
   have HYY:=Lib.hid hY; have HZZ:=Lib.hid hZ; clear hY hZ
   have hsrc:∀j u,Z[j]? = some u->wr.cell? ⟨w.heap.size,j,none⟩=some u:=fun j u hj=>by
    rw[HZZ.out] at hj
    have hjl:=(List.getElem?_eq_some_iff.1 hj).1
    rw[length_replicate] at hjl
    rw[getElem?_replicate,if_pos hjl] at hj
    rw[cell_of_row wr _ _ _ _ _ HG.out,HYY.out,List.getElem?_toArray,List.getElem?_append_left (by simp; omega),getElem?_replicate,if_pos J]
    exact hj
   have hcn:¬ c=n:=J
   have hdr:(wr.drew).heap[w.heap.size]? = some (.cells Y.toArray 3 (0,0)):=HG.out
   have hc2:=run_copy_row (P:=prog) wr.drew 31 31 3 3 w.heap.size n (c - n) (c - n) ⟨w.heap.size,0,none⟩ n c Y.toArray 3 Z Tryz.underlying31 ai hdr (by rw[hZl])
    (fun j u hj=>by rw[Addr.add_lit,Nat.zero_add]; exact hsrc j u hj) (by show n+Z.length<=Y.toArray.size; rw[List.size_toArray]; omega) (fun u hu=>by rw[HZZ.out] at hu; rw[(mem_replicate.1 hu).2]; rfl)
   obtain⟨w4,hw4⟩:∃w4,w4=wr.drew.setRow w.heap.size (Y.toArray.toList.take n++Z++Y.toArray.toList.drop (n+Z.length)).toArray:=⟨_,rfl⟩
   rw[<-hw4] at hc2
   have hbd:Below w.heap.size w wr.drew:=⟨HB.out.os,HB.out.tape,HB.out.output,HB.out.size,HB.out.block⟩
   have hb4:Below w.heap.size w w4:=by rw[hw4]; exact below_setRow hbd (le_refl _) _
   have HG4:Hid (w4.heap[w.heap.size]? = some (.cells (replicate (n+min n (c - n)) (Value.int .i64 v)++L.drop (n+min n (c - n))).toArray 3 (0,0))):=by
    refine Lib.hid ?_
    rw[hw4,setRow_heap wr.drew w.heap.size _ _ _ _ hdr]
    congr 3
    rw[hZl,HZZ.out,HYY.out]
    have e1:(replicate n (Value.int .i64 v)++L.drop n).take n=replicate n (Value.int .i64 v):=by rw[List.take_append_of_le_length ah,take_of_length_le ah]
    have e2:(replicate n (Value.int .i64 v)++L.drop n).drop (n+min n (c - n))=L.drop (n+min n (c - n)):=by
     rw[List.drop_append,List.drop_of_length_le ah,List.nil_append,List.drop_drop,length_replicate]
     congr 1; omega
    simp only[e1,e2,List.replicate_append_replicate]
   rw[hZl] at hc2
   clear hw4 hdr hsrc
   go_wp2_with fail
   go_region
   go_wp2
   go_roundw
   case rel=>exact⟨n+min n (c - n),J,J,by go_num,HG4,Lib.hid hb4⟩
   case measure=>simp[intOf]; omega
  ·have hltz:¬ (n:Int) < (c:Int):=J
   obtain rfl:n=c:=J
   go_wp2
   go_ret
   refine⟨_,rfl,le_refl _,?_,HB.out⟩
   have:=HG.out
   rw[List.drop_eq_nil_of_le J,append_nil] at this
   exact this
end
namespace DW
open Go.RowKit
theorem PU (v:Int) (c:Nat) (hc:c<=1000000000):Fn prog 86 [⟨aq,[v]⟩,⟨.int,(c:Int)⟩] true [⟨aq,replicate c v⟩]:=by
 refine⟨enters func86 rfl rfl,fun w vs S _ ha=>?_⟩
 match vs,ha with
 | [v0,v1],⟨⟨f0,⟨cs,hpk,hr⟩,_⟩,⟨f1,h1,_⟩,_⟩ =>
  obtain rfl:=vU h1
  obtain rfl:=Ti rfl hpk
  obtain⟨ad,cp,hcs,hc1,hc2,⟨hnil,_⟩|⟨b,off,fps,_,rfl,_,hE⟩⟩:=hr
  ·cases hnil
  injection hcs with hcs _
  subst hcs
  obtain⟨f,cs,_,hrp,hcell⟩:=hE.2 0 v rfl
  obtain⟨rfl,_,hI⟩:=hrp
  have hv:w.cell? ⟨b,off,none⟩=some (.int .i64 v):=by simpa using hcell 0 _ rfl
  refine (CU v b off cp c w (qY hv) hv hc).mono ?_
  rintro e w' ⟨g,rfl,hgb,hg,hb⟩
  refine⟨hb,_,rfl,?_⟩
  have hgl:g < w'.heap.size:=by
   rcases Nat.lt_or_ge g w'.heap.size with h|h
   ·exact h
   ·rw[Array.getElem?_eq_none h] at hg; cases hg
  by_cases h0:c=0
  ·subst h0
   exact⟨[],⟨_,.inr ⟨rfl,rfl⟩,some ⟨g,0,none⟩,0,rfl,le_refl _,zero_le _,.inl ⟨rfl,rfl⟩⟩,fun _=>pO _ _,fun b hb=>by cases hb⟩
  ·have hlen:(replicate c v).length=c:=length_replicate
   refine⟨[g],⟨[.slice (some ⟨g,0,none⟩) c c],.inr ⟨rfl,rfl⟩,some ⟨g,0,none⟩,c,by rw[hlen],by rw[hlen]; exact le_refl _,le_trans hc ae,.inr ⟨g,0,replicate c [],fun e=>h0 (by have h:=congrArg List.length (show replicate c v=[] from e); rw[hlen] at h; exact h),rfl,by simp,by simp,fun i x hx=>?_⟩⟩,fun _=>⟨by simp,fun b hb=>?_⟩,fun b hb=>?_⟩
   ·rw[getElem?_replicate] at hx
    split at hx
    ·rename_i hi
     injection hx with hx
     subst hx
     refine⟨[],[.int .i64 v],by rw[getElem?_replicate,if_pos hi],⟨rfl,rfl,hI⟩,fun j u hj=>?_⟩
     match j,hj with
     | 0,hj =>
      injection hj with hj
      subst hj
      rw[cell_of_row w' _ _ _ _ _ hg]
      show (replicate c (Value.int .i64 v)).toArray[0+i * 1+0]? = _
      rw[List.getElem?_toArray,getElem?_replicate,if_pos J]
     | j+1,hj=>simp at hj
    ·cases hx
   ·obtain rfl:b=g:=by simpa using hb
    exact⟨hgb,_,_,hg⟩
   ·obtain rfl:b=g:=by simpa using hb
    exact .inr hgb
theorem Di (v:Int) (c:Nat) (hc:c<=1048576):xt prog 86 [⟨aq,[v]⟩,⟨.int,(c:Int)⟩] 3 .int (replicate c v):=by
 refine⟨enters func86 rfl rfl,fun w vs S _ ha=>?_⟩
 match vs,ha with
 | [v0,v1],⟨⟨f0,⟨cs,hpk,hr⟩,_⟩,⟨f1,h1,_⟩,_⟩ =>
  obtain rfl:=vU h1
  obtain rfl:=Ti rfl hpk
  obtain⟨ad,cp,hcs,hc1,hc2,⟨hnil,_⟩|⟨b,off,fps,_,rfl,_,hE⟩⟩:=hr
  ·cases hnil
  injection hcs with hcs _
  subst hcs
  obtain⟨f,cs,_,hrp,hcell⟩:=hE.2 0 v rfl
  obtain⟨rfl,_,hI⟩:=hrp
  have hv:w.cell? ⟨b,off,none⟩=some (.int .i64 v):=by simpa using hcell 0 _ rfl
  refine (CU v b off cp c w (qY hv) hv (le_trans hc ae)).mono ?_
  rintro e w' ⟨g,rfl,hgb,hg,hb⟩
  refine⟨hb,_,replicate c [],rfl,rfl,?_,by rw[show (replicate c ([]:List Nat)).flatten=[] by simp]; exact pO _ _,fun b hb=>by simp at hb⟩
  have hs1:(Ty.int).rp.size=1:=rfl
  refine⟨replicate c (.int .i64 v),⟨by rw[hs1]; simp,.inr ⟨g,c,_,by simp,hgb,hg,by simp,le_trans hc ae,by rw[hs1]; simp,by rw[hs1]; simp⟩⟩,by simp,fun i x hx=>?_⟩
  rw[getElem?_replicate] at hx
  split at hx
  ·rename_i hi
   injection hx with hx
   subst hx
   refine⟨[],[.int .i64 v],by rw[getElem?_replicate,if_pos hi],⟨rfl,rfl,hI⟩,fun j u hj=>?_⟩
   match j,hj with
   | 0,hj =>
    injection hj with hj
    subst hj
    rw[getElem?_replicate,if_pos (by show i * 1+0 < c; omega)]
  ·cases hx
def kZ (o:List Int):Nat:=(o.filter fun x=>decide (x < 0)).length
def Rj (nx:Int) (d:DV) (s:List Int × Bool) (e:DV):List Int × Bool:=if e.2=d.2/\ni s.1 e.1.toNat < 0 then (s.1.set e.1.toNat nx,true) else s
def wD (nx:Int) (d:DV) (ds:List DV) (s:List Int × Bool):Nat->List Int × Bool
 | 0=>s
 | j+1=>Rj nx d (wD nx d ds s j) (nth (t:=an) ds j)
def QE (nx:Int) (ds:List DV) (s:List Int × Bool) (d:DV):List Int × Bool:=if ni s.1 d.1.toNat=nx then wD nx d ds s ds.length else s
def lS (nx:Int) (ds:List DV) (o:List Int):Nat->List Int × Bool
 | 0=>(o,false)
 | i+1=>QE nx ds (lS nx ds o i) (nth (t:=an) ds i)
def qo (nx:Int) (ds:List DV) (o:List Int):List Int × Bool:=lS nx ds o ds.length
def Dn (o:List Int) (s:List Int × Bool):Prop:=s.1.length=o.length/\kZ s.1<=kZ o/\(s.2=true->kZ s.1 < kZ o)
theorem Ax {o:List Int} {i:Nat} {x:Int} (hi:i < o.length) (h:ni o i < 0) (hx:0<=x):kZ (o.set i x) < kZ o:=by
 induction o generalizing i with
 | nil=>cases hi
 | cons a o ih =>
  cases i with
  | zero =>
   have h:a < 0:=h
   show ((x :: o).filter _).length < ((a :: o).filter _).length
   rw[List.filter_cons_of_neg (by simpa using hx),List.filter_cons_of_pos (by simpa using h),length_cons]
   exact Nat.lt_succ_self _
  | succ i =>
   have:=ih (i:=i) (by simpa using hi) h
   show ((a :: o.set i x).filter _).length < ((a :: o).filter _).length
   unfold kZ at this
   by_cases ha:a < 0
   ·rw[List.filter_cons_of_pos (by simpa using ha),List.filter_cons_of_pos (by simpa using ha),length_cons,length_cons]; omega
   ·rw[List.filter_cons_of_neg (by simpa using ha),List.filter_cons_of_neg (by simpa using ha)]; exact this
variable {nx:Int} {ds:List DV} {o:List Int}
theorem aai {d e:DV} {s:List Int × Bool} (h:Dn o s) (he:e.1.toNat < o.length) (hn:0<=nx):Dn o (Rj nx d s e):=by
 unfold Rj
 split
 ·rename_i hc
  have:=Ax (by rw[h.1]; exact he) hc.2 hn
  exact⟨by rw[length_set]; exact h.1,le_trans (Nat.le_of_lt this) h.2.1,fun _=>Nat.lt_of_lt_of_le this h.2.1⟩
 ·exact h
theorem Kl {d:DV} {s:List Int × Bool} (h:Dn o s) (hd:∀e ∈ ds,e.1.toNat < o.length) (hn:0<=nx):∀j,j<=ds.length->Dn o (wD nx d ds s j)
 | 0,_=>h
 | j+1,hj=>aai (Kl h hd hn j J) (hd _ (aU (i:=j) J)) hn
theorem BV (hd:∀e ∈ ds,e.1.toNat < o.length) (hn:0<=nx):∀i,i<=ds.length->Dn o (lS nx ds o i)
 | 0,_=>⟨rfl,le_refl _,fun h=>by cases h⟩
 | i+1,hi=>by
  show Dn o (QE nx ds (lS nx ds o i) (nth (t:=an) ds i))
  unfold QE
  split
  ·exact Kl (BV hd hn i J) hd hn _ (le_refl _)
  ·exact BV hd hn i J
theorem BS (hd:∀e ∈ ds,e.1.toNat < o.length) (hn:0<=nx):Dn o (qo nx ds o):=BV hd hn _ (le_refl _)
def tI (nx:Int) (ds:List DV) (o:List Int):List Int :=
 if h:(qo nx ds o).2=true/\kZ (qo nx ds o).1 < kZ o then tI nx ds (qo nx ds o).1 else (qo nx ds o).1
termination_by kZ o
decreasing_by exact h.2
theorem Oy (hd:∀e ∈ ds,e.1.toNat < o.length) (hn:0<=nx) (h:(qo nx ds o).2=true):tI nx ds o=tI nx ds (qo nx ds o).1:=by
 rw[tI,dif_pos ⟨h,(BS hd hn).2.2 h⟩]
theorem Oa (h:(qo nx ds o).2=false):tI nx ds o=(qo nx ds o).1:=by
 rw[tI,dif_neg (fun k=>by rw[h] at k; cases k.1)]
theorem Xy (hd:∀e ∈ ds,e.1.toNat < o.length) (hn:0<=nx):(tI nx ds o).length=o.length:=by
 induction hN:kZ o using Nat.strongRecOn generalizing o with
 | _ N ih =>
  have hR:=BS hd hn
  cases hb:(qo nx ds o).2
  ·rw[Oa hb]; exact hR.1
  ·rw[Oy hd hn hb,ih _ (hN ▸ hR.2.2 hb) (by rw[hR.1]; exact hd) rfl]; exact hR.1
def F1 (ds:List DV) (s:List Int × Int) (k:Nat):List Int × Int:=if 0<=ni s.1 k then s else (tI s.2 ds (s.1.set k s.2),s.2+1)
def ki (n:Nat) (ds:List DV):Nat->List Int × Int
 | 0=>(replicate n (-1),0)
 | k+1=>F1 ds (ki n ds k) k
def vL (n:Nat) (ds:List DV):List Int:=(ki n ds n).1
theorem w5 {n:Nat} (hd:∀e ∈ ds,e.1.toNat < n):∀k,(ki n ds k).1.length=n/\0<=(ki n ds k).2/\(ki n ds k).2<=k
 | 0=>⟨by show (replicate n (-1:Int)).length=n; simp,Int.le_refl _,Int.le_refl _⟩
 | k+1=>by
  obtain⟨h1,h2,h3⟩:=w5 hd k
  show (F1 ds (ki n ds k) k).1.length=n/\0<=(F1 ds (ki n ds k) k).2/\(F1 ds (ki n ds k) k).2<=((k+1:Nat):Int)
  unfold F1
  split
  ·exact⟨h1,h2,J⟩
  ·exact⟨(Xy (by rw[length_set,h1]; exact hd) h2).trans (by rw[length_set,h1]),by dsimp only; omega,by dsimp only; omega⟩
theorem PK (n:Nat) (ds:List DV) (hd:∀e ∈ ds,0<=((e.1:Int))/\((e.1:Int)) < n) (hn:n<=1048576):Fn prog 123 [⟨.int,(n:Int)⟩,⟨.slice an,ds⟩] true [⟨aq,vL n ds⟩]:=by
 have hd2:∀e ∈ ds,e.1.toNat < n:=fun e he=>by obtain⟨h1,h2⟩:=hd e he; omega
 have c1:=Di (-1) n hn
 unfold vL
 refine fe func123 ntmps123 results123 fun hwf=>?_
 have hdl:ds.length<=9223372036854775807:=(hwf ⟨.slice an,ds⟩ ah).1
 refine Sz ?_
 refine aO.g (c1) ?_
 refine Nz ?_
 refine aF.intro _ _ _ (fun k:Nat=>⟨[(1,.sl an ds),(5,.row 0 0),(6,.sc (.int .i64 (ki n ds k).2)),(17,.sc (.int .i64 n)),(18,.sc (.int .i64 k))],[(0,.row 3 .int 0 true (ki n ds k).1)]⟩) (fun k=>k<=n) (fun k=>n - k) 0 ?_ (zero_le _) ?_
 ·refine Wk.mk [(0,1)] ?_
  refine Nz ?_
  try (and_intros<;>first|rfl|omega|exact⟨_,rfl⟩)
 ·rintro k hk
  obtain⟨g1,g2,g3⟩:=w5 hd2 k
  have e:ki n ds (k+1)=if 0<=ni (ki n ds k).1 k then ki n ds k else (tI (ki n ds k).2 ds ((ki n ds k).1.set k (ki n ds k).2),(ki n ds k).2+1):=rfl
  have hre:(ki n ds k).1.length=n:=g1
  refine Nz ?_
  refine ao ?_ ?_<;>intro hA
  ·have hkt:k < n:=J
   refine Sz ?_
   refine ao ?_ ?_<;>intro hB
   ·rw[if_pos hB] at e
    refine Sz ?_
    refine az.mk (k+1) ?_ J J
    rw[e]
    exact WK
   ·rw[if_neg hB] at e
    generalize hnx:(ki n ds k).2=nx at *
    generalize ho0:(ki n ds k).1=o0 at *
    have hO:∀o:List Int,o.length=n->∀x ∈ ds,x.1.toNat < o.length:=fun o ho x hx=>by rw[ho]; exact hd2 x hx
    refine Sz ?_
    refine aF.intro _ _ _ (fun s:List Int × Bool=>⟨[(1,.sl an ds),(5,.row 0 0),(6,.sc (.int .i64 nx)),(8,.sc (.bool s.2)),(17,.sc (.int .i64 n)),(18,.sc (.int .i64 k))],[(0,.row 3 .int 0 true s.1)]⟩) (fun s=>s.1.length=n/\(if s.2=true then tI nx ds s.1 else s.1)=tI nx ds (o0.set k nx)) (fun s=>if s.2=true then kZ s.1+1 else 0) (o0.set k nx,true) ?_ ⟨by rw[length_set]; exact hre,if_pos rfl⟩ ?_
    ·exact WK
    ·rintro⟨o,b⟩ ⟨hol,hoe⟩
     dsimp only at hol hoe
     cases b
     ·rw[if_neg (fun h=>by cases h)] at hoe
      refine Sz ?_
      refine az.mk (k+1) ?_ J J
      rw[e,<-hoe]
      exact WK
     ·rw[if_pos rfl] at hoe
      have hOo:=hO o hol
      have hR:=BS (nx:=nx) hOo g2
      refine Nz ?_
      refine aF.intro _ _ _ (fun i:Nat=>⟨[(1,.sl an ds),(5,.row 0 0),(6,.sc (.int .i64 nx)),(8,.sc (.bool (lS nx ds o i).2)),(17,.sc (.int .i64 n)),(18,.sc (.int .i64 k)),(31,.sl an ds),(32,.sc (.int .i64 ds.length)),(33,.sc (.int .i64 i))],[(0,.row 3 .int 0 true (lS nx ds o i).1)]⟩) (fun i=>i<=ds.length) (fun i=>ds.length - i) 0 ?_ (zero_le _) ?_
      ·exact WK
      ·rintro i hi
       have hI:=BV (nx:=nx) hOo g2 i hi
       have hIl:=hI.1.trans hol
       refine Nz ?_
       refine ao (fun hC=>?_) (fun hC=>?_)
       ·have hit:i < ds.length:=J
        obtain⟨q1,q2⟩:=hd _ (aU hit)
        have q3:=hd2 _ (aU hit)
        have e2:lS nx ds o (i+1)=if ni (lS nx ds o i).1 (nth (t:=an) ds i).1.toNat=nx then wD nx (nth (t:=an) ds i) ds (lS nx ds o i) ds.length else lS nx ds o i:=rfl
        by_cases hq:ni (lS nx ds o i).1 (nth (t:=an) ds i).1.toNat=nx
        rotate_left
        ·have d1:=ak hq
         rw[if_neg hq] at e2
         refine Tz d1 ?_
         refine Tz d1 ?_
         refine az.mk (i+1) ?_ J J
         rw[e2]
         exact WK
        have d1:=aj hq
        rw[if_pos hq] at e2
        refine Tz d1 ?_
        refine Tz d1 ?_
        refine aF.intro _ _ _ (fun j:Nat=>⟨[(1,.sl an ds),(5,.row 0 0),(6,.sc (.int .i64 nx)),(8,.sc (.bool (wD nx (nth (t:=an) ds i) ds (lS nx ds o i) j).2)),(10,.ptr 1 0),(17,.sc (.int .i64 n)),(18,.sc (.int .i64 k)),(31,.sl an ds),(32,.sc (.int .i64 ds.length)),(33,.sc (.int .i64 i)),(44,.sl an ds),(45,.sc (.int .i64 ds.length)),(46,.sc (.int .i64 j))],[(0,.row 3 .int 0 true (wD nx (nth (t:=an) ds i) ds (lS nx ds o i) j).1),(1,.box [.sc (.int .i64 (nth (t:=an) ds i).1),.sc (.int .i64 (nth (t:=an) ds i).2)])]⟩) (fun j=>j<=ds.length) (fun j=>ds.length - j) 0 ?_ (zero_le _) ?_
        ·exact WK
        ·rintro j hj
         have hJ:=Kl (d:=nth (t:=an) ds i) hI hOo g2 j hj
         have hJl:=hJ.1.trans hol
         refine Nz ?_
         refine ao (fun hD=>?_) (fun hD=>?_)
         ·have hjt:j < ds.length:=J
          obtain⟨r1,r2⟩:=hd _ (aU hjt)
          have r3:=hd2 _ (aU hjt)
          have e3:wD nx (nth (t:=an) ds i) ds (lS nx ds o i) (j+1)=if (nth (t:=an) ds j).2=(nth (t:=an) ds i).2/\ni (wD nx (nth (t:=an) ds i) ds (lS nx ds o i) j).1 (nth (t:=an) ds j).1.toNat < 0 then ((wD nx (nth (t:=an) ds i) ds (lS nx ds o i) j).1.set (nth (t:=an) ds j).1.toNat nx,true) else wD nx (nth (t:=an) ds i) ds (lS nx ds o i) j:=rfl
          by_cases hx:(nth (t:=an) ds j).2=(nth (t:=an) ds i).2
          rotate_left
          ·have d2:=ak hx
           rw[if_neg (fun h=>hx h.1)] at e3
           refine Tz d2 ?_
           refine Tz d2 ?_
           refine az.mk (j+1) ?_ J J
           rw[e3]
           exact WK
          have d2:=aj hx
          by_cases hy:ni (wD nx (nth (t:=an) ds i) ds (lS nx ds o i) j).1 (nth (t:=an) ds j).1.toNat < 0
          rotate_left
          ·have d3:=ak hy
           rw[if_neg (fun h=>hy h.2)] at e3
           refine Tz d2 ?_
           refine fy d2 d3 ?_
           refine fy d2 d3 ?_
           refine az.mk (j+1) ?_ J J
           rw[e3]
           exact WK
          have d3:=aj hy
          rw[if_pos ⟨hx,hy⟩] at e3
          refine Tz d2 ?_
          refine fy d2 d3 ?_
          refine fy d2 d3 ?_
          refine az.mk (j+1) ?_ J J
          rw[e3]
          exact WK
         ·obtain rfl:j=ds.length:=J
          refine Sz ?_
          refine az.mk (i+1) ?_ J J
          rw[e2]
          exact WK
       ·obtain rfl:i=ds.length:=J
        have hRf:lS nx ds o ds.length=qo nx ds o:=rfl
        rw[hRf]
        refine Nz ?_
        refine az.mk (qo nx ds o) ?_ ?_ ?_
        ·exact WK
        ·refine⟨hR.1.trans hol,?_⟩
         cases hb:(qo nx ds o).2
         ·rw[if_neg (fun h=>by cases h),<-hoe,Oa hb]
         ·rw[if_pos rfl,<-hoe,Oy hOo g2 hb]
        ·cases hb:(qo nx ds o).2
         ·rw[if_neg (fun h=>by cases h)]; exact Nat.succ_pos _
         ·rw[if_pos rfl]; exact Nat.succ_lt_succ (hR.2.2 hb)
  ·obtain rfl:k=n:=J
   all_goals exact Fz
end DW

section
open Go.RowKit
namespace DW
end DW
end

namespace DW
open Go.RowKit
@[go_sem] theorem adi:kV prog 25=some 24:=by kernel_rfl
end DW

section
open Go.RowKit
namespace DW
end DW
end

namespace DW
open Go.RowKit
abbrev bk:=aP.den
abbrev dG:=cY.den
abbrev DRd:=mc.den
open Classical in
section
variable {s:dG} {op:Int->Bool} {bx:Int->DV × DV} {ar:Int->List (List DV)}
end
abbrev Yr:Ty:=.prod .int (.prod .bool (.prod tE (.prod iz (.prod (.dr .nil) (.prod (.dr .nil) (.prod (.dr .nil) (.dr .nil)))))))
theorem DU (s:dG) (h:Int) (o:Bool) (b:DV × DV) (a:List (List DV)) (hz:o=false->b=((0,0),(0,0))) (c1:Fn prog 131 [⟨cY,s⟩,⟨.int,h⟩] false [⟨tE,b⟩,⟨.bool,o⟩]) (c2:Fn prog 132 [⟨cY,s⟩,⟨.int,h⟩] true [⟨iz,a⟩]):Fn prog 118 [⟨cY,s⟩,⟨.int,h⟩] false [⟨Yr,(h,o,b,(if o=true then a else []),(),(),(),())⟩]:=by
 cases o
 ·have hz:=hz rfl
  subst hz
  refine fe func118 ntmps118 results118 fun hwf=>?_
  refine Sz ?_
  refine cw c1 ?_
  try simp (maxSteps:=9^9) only[go_sem]
 ·refine fe func118 ntmps118 results118 fun hwf=>?_
  refine Cz c1 ?_
  refine cw c2 ?_
  all_goals exact Fz
def p9 (b:DV × DV) (a:List (List DV)) (ev:List DR):Nat->List dZ
 | 0=>[]
 | k+1=>p9 b a ev k++AA b a (aw (nth (t:=au) ev k)) (aw (nth (t:=au) ev (k+1)))
def s9 (b:DV × DV) (a:List (List DV)) (ev:List DR):Nat->List fU
 | 0=>[]
 | k+1=>if k+2 < ev.length then s9 b a ev k++Bc b a (aw (nth (t:=au) ev (k+1))) else s9 b a ev k
def sW (C:dZ) (i:Int) (W:List fU) (D:List DV):Nat->List DV
 | 0=>D
 | j+1=>if Sj C (nth (t:=bz) W j)=true then sW C i W D j++[(i,(j:Int))] else sW C i W D j
def nM (C:List dZ) (W:List fU):Nat->List DV
 | 0=>[]
 | i+1=>sW (nth (t:=bf) C i) i W (nM C W i) W.length
def fc (b:DV × DV) (a:List (List DV)):List dZ:=p9 b a (gL b a) ((gL b a).length - 1)
def nR (b:DV × DV) (a:List (List DV)):List fU:=s9 b a (gL b a) ((gL b a).length - 1)
def j6 (b:DV × DV) (a:List (List DV)):List DV:=nM (fc b a) (nR b a) (fc b a).length
def lE (h:Int) (o:Bool) (b:DV × DV) (a:List (List DV)):bk :=
 if o=true then (h,true,b,a,fc b a,nR b a,j6 b a,vL (fc b a).length (j6 b a)) else (h,false,((0,0),(0,0)),[],[],[],[],[])
theorem PN {lo hi:Option Rat} {ce x y:DP} {l:List dZ} (h1:aY lo) (h2:aY hi) (hc:gB ce) (hx:gB x) (hy:gB y) (hl:∀k ∈ l,gC k):∀k ∈ tc lo hi ce l x y,gC k:=by
 intro k hk
 unfold tc at hk
 split at hk
 ·rcases mem_append.1 hk with hk|hk
  ·exact hl k hk
  ·rw[mem_singleton.1 hk]
   refine⟨iu h1,iu h2,hx.1,hx.2,?_,?_⟩
   ·dsimp only; split
    ·exact hc.1
    ·exact hy.1
   ·dsimp only; split
    ·exact hc.2
    ·exact hy.2
 ·exact hl k hk
theorem NR {S:List DK} (hS:∀s ∈ S,gK s) {lo hi:Option Rat} {fl ce:DP} (h1:aY lo) (h2:aY hi) (hf:gB fl) (hc:gB ce):∀k,k<=S.length->∀c ∈ (jE S lo hi fl ce k).2,gC c
 | 0,_=>fun c hk=>by cases hk
 | k+1,hk=>PN h1 h2 hc (B8 hS lo hi hf k J) (hS _ (aS (t:=dK) (i:=k) J)).1 (NR hS h1 h2 hf hc k J)
theorem YA {b:DV × DV} {l:List (List DV)} {lo hi:Option Rat} (hb:b.1.2.natAbs<=1000000/\b.2.2.natAbs<=1000000) (h1:aY lo) (h2:aY hi):∀c ∈ AA b l lo hi,gC c:=by
 have k1:=Cc hb.1
 have k2:=Cc hb.2
 exact PN h1 h2 k2 (B8 (ET l lo hi) lo hi k1 _ (le_refl _)) k2 (NR (ET l lo hi) h1 h2 k1 k2 _ (le_refl _))
theorem RU {b:DV × DV} {a:List (List DV)} {ev:List DR} (hb:b.1.2.natAbs<=1000000/\b.2.2.natAbs<=1000000):∀k,∀c ∈ p9 b a ev k,gC c
 | 0=>fun c hk=>by cases hk
 | k+1=>fun c hc=>by
  rcases mem_append.1 (show c ∈ p9 b a ev k++_ from hc) with hc|hc
  ·exact RU hb k c hc
  ·exact YA hb (aI _) (aI _) c hc
theorem zn (b:DV × DV) (a:List (List DV)) (ev:List DR) (ha:a.length<=4):∀k,(p9 b a ev k).length<=5 * k
 | 0=>le_refl _
 | k+1=>by
  have h1:=zn b a ev ha k
  have h2:=Iz b a (aw (nth (t:=au) ev k)) (aw (nth (t:=au) ev (k+1)))
  rw[p9,length_append]; omega
theorem Q1 {x top cur y:Option Rat} {l:List fU} (hx:aY x) (ht:aY top) (hc:aY cur) (hy:aY y) (hl:∀w ∈ l,gW w):∀w ∈ yu x top cur l y,gW w:=by
 intro w hw
 unfold yu at hw
 split at hw
 ·rcases mem_append.1 hw with hw|hw
  ·exact hl w hw
  ·rw[mem_singleton.1 hw]
   exact⟨iu hx,iu hc,iu (lp hy ht)⟩
 ·exact hl w hw
theorem NX {S:List DP} {x low top:Option Rat} (hx:aY x) (h1:aY low) (h2:aY top):∀k,∀w ∈ (lX S x low top k).2,gW w
 | 0=>fun w hw=>by cases hw
 | k+1=>Q1 hx h2 (Bq h1 k) (aI _) (NX hx h1 h2 k)
theorem Y1 {b:DV × DV} {l:List (List DV)} {x:Option Rat} (hb:b.1.2.natAbs<=1000000/\b.2.2.natAbs<=1000000) (hx:aY x):∀w ∈ Bc b l x,gW w :=
 Q1 hx (dN hb.2) (Bq (dN hb.1) _) (dN hb.2) (NX hx (dN hb.1) (dN hb.2) _)
theorem JK (b:DV × DV) (l:List (List DV)) (x:Option Rat):(Bc b l x).length<=l.length+1 :=
 le_trans (Nw _ _ _ _ _) (succ_le_succ (le_trans (DM _ _ _ _ _) (NT _ _)))
theorem Kp {b:DV × DV} {a:List (List DV)} {ev:List DR} (hb:b.1.2.natAbs<=1000000/\b.2.2.natAbs<=1000000):∀k,∀w ∈ s9 b a ev k,gW w
 | 0=>fun w hk=>by cases hk
 | k+1=>fun w hw=>by
  rw[s9] at hw
  split at hw
  ·rcases mem_append.1 hw with hw|hw
   ·exact Kp hb k w hw
   ·exact Y1 hb (aI _) w hw
  ·exact Kp hb k w hw
theorem EI (b:DV × DV) (a:List (List DV)) (ev:List DR) (ha:a.length<=4):∀k,(s9 b a ev k).length<=5 * k
 | 0=>le_refl _
 | k+1=>by
  have h1:=EI b a ev ha k
  have h2:=JK b a (aw (nth (t:=au) ev (k+1)))
  rw[s9]
  split
  ·rw[length_append]; omega
  ·omega
theorem yR (C:dZ) (i:Int) (W:List fU) (D:List DV):∀j,(sW C i W D j).length<=D.length+j
 | 0=>le_refl _
 | j+1=>by
  have:=yR C i W D j
  rw[sW]
  split
  ·rw[length_append,List.length_singleton]; omega
  ·omega
theorem Mb (C:List dZ) (W:List fU) (hW:W.length<=200000):∀i,(nM C W i).length<=200000 * i
 | 0=>le_refl _
 | i+1=>by
  have h1:=Mb C W hW i
  have h2:=yR (nth (t:=bf) C i) i W (nM C W i) W.length
  rw[nM]; omega
theorem JQ {C:dZ} {i:Int} {W:List fU} {D:List DV} {n:Nat} (hi:0<=i/\i < n) (hD:∀e ∈ D,0<=((e.1:Int))/\((e.1:Int)) < n):∀j,∀e ∈ sW C i W D j,0<=((e.1:Int))/\((e.1:Int)) < n
 | 0=>hD
 | j+1=>fun e he=>by
  rw[sW] at he
  split at he
  ·rcases mem_append.1 he with he|he
   ·exact JQ hi hD j e he
   ·rw[mem_singleton.1 he]; exact hi
  ·exact JQ hi hD j e he
theorem J3 (C:List dZ) (W:List fU):∀i,i<=C.length->∀e ∈ nM C W i,0<=((e.1:Int))/\((e.1:Int)) < (C.length:Int)
 | 0,_=>fun e he=>by cases he
 | i+1,hi=>JQ ⟨J,J⟩ (J3 C W i J) _
theorem N3 {b:DV × DV} {l:List (List DV)} (hp:∀a ∈ l,dD a=true) (hl:l.length<=4):(gL b l).length<=30000:=by
 have h1:=Nn (nY (n9 b l))
 rw[EK] at h1
 have h2:=Eb (lo:=aV b.1.1) (hi:=aV b.2.1) hp l.length (le_refl _)
 have h3:=yx l (fun a ha=>jk (hp a ha)) l.length (le_refl _)
 have h3:(dX l).length<=16 * l.length:=h3
 have h4:=DD (aV b.1.1) (aV b.2.1) b.1.2 b.2.2 (kB (aV b.1.1) (aV b.2.1) l l.length) (dX l) (dX l).length J
 have h5:(n9 b l).length=(jD (aV b.1.1) (aV b.2.1) b.1.2 b.2.2 (kB (aV b.1.1) (aV b.2.1) l l.length) (dX l) (dX l).length).length+2:=by
  unfold n9; rw[length_append]; rfl
 unfold gL
 omega
theorem aaC {b:DV × DV} {l:List (List DV)} (hb:b.1.1.natAbs<=1000000/\b.2.1.natAbs<=1000000) (hp:∀a ∈ l,dD a=true):∀r ∈ gL b l,gV r:=fun r hr=>R6 hb hp r (qN.1 (MD hr))
section
variable {e f:DE}
theorem BE (e:DE) (q:Rat):hR e q=hR e 0+bJ e * q:=by unfold hR; grind
theorem abO (h:bJ e ≠ bJ f):xR e f * (bJ e - bJ f)=hR f 0 - hR e 0:=by
 have:bJ e - bJ f ≠ 0:=fun h2=>h (by grind)
 unfold xR; grind
theorem kX {a b:Rat} (h:0 < a * b) (hb:0 < b):0 < a:=by
 refine not_le.1 fun h2=>?_
 have:=Rat.mul_nonneg (show 0<=-a by grind) (Rat.le_of_lt hb)
 grind
theorem QR {lo hi:Rat} (hl:lo < hi) (h1:hR e lo < hR f lo) (h2:hR f hi < hR e hi):bJ e ≠ bJ f/\lo < xR e f/\xR e f < hi:=by
 rw[BE e,BE f] at h1 h2
 have hd:0 < bJ e - bJ f:=by
  have:0 < (bJ e - bJ f) * (hi - lo):=by grind
  exact kX this (by grind)
 have hne:bJ e ≠ bJ f:=fun h=>by rw[h] at hd; grind
 have hx:=abO hne
 refine⟨hne,?_,?_⟩
 ·have:0 < (xR e f - lo) * (bJ e - bJ f):=by grind
  have:=kX this hd
  grind
 ·have:0 < (hi - xR e f) * (bJ e - bJ f):=by grind
  have:=kX this hd
  grind
theorem JO (e f:DE):xR f e=xR e f:=by
 unfold xR
 by_cases h:bJ e - bJ f=0
 ·rw[h,show bJ f - bJ e=0 by grind]; grind
 ·have:bJ f - bJ e ≠ 0:=fun h2=>h (by grind)
  grind
theorem V1 {lo hi:Rat} (he:gE e) (hf:gE f) (s1:(eX e:Rat)<=lo/\hi<=(eR e:Rat)) (s2:(eX f:Rat)<=lo/\hi<=(eR f:Rat)) (hne:bJ e ≠ bJ f) (h1:lo < xR e f) (h2:xR e f < hi):rl e f=some (xR e f)/\rF e f=true:=by
 obtain⟨a,_⟩:=W1 he hf hne
 have b:rF e f=true:=by
  unfold rF
  rw[a,yw.2 ⟨by grind,by grind⟩,yw.2 ⟨by grind,by grind⟩]; rfl
 refine⟨?_,b⟩
 unfold rl
 rw[if_pos b,a]
end
structure dV (b:DV × DV) (a:List (List DV)) (k:Nat):Prop where
 g:kh b a
 k:k+1 < (gL b a).length
section
variable {b:DV × DV} {a:List (List DV)} {k:Nat} {e f:DE}
theorem dV.lt (h:dV b a k):bn b a k < bn b a (k+1):=Jw h.g (Nat.lt_succ_self k) h.k
theorem dV.lo (h:dV b a k):bL b<=bn b a k:=(ur h.g (by have:=h.k; omega)).2.lo
theorem dV.hi (h:dV b a k):bn b a (k+1)<=bH b:=(ur h.g h.k).2.hi
structure Xv (b:DV × DV) (a:List (List DV)) (k:Nat) (e:DE):Prop where
 mem:e ∈ dX a
 lo:(eX e:Rat)<=bn b a k
 hi:bn b a (k+1)<=(eR e:Rat)
theorem dV.MZ (h:dV b a k) (he:Xv b a k e) (hf:Xv b a k f) (h1:hR e (bn b a k) < hR f (bn b a k)) (h2:hR f (bn b a (k+1)) < hR e (bn b a (k+1))):False:=by
 obtain⟨hne,x1,x2⟩:=QR h.lt h1 h2
 have ge:=uq h.g e he.mem
 have gf:=uq h.g f hf.mem
 have hl:=h.lo
 have hh:=h.hi
 obtain⟨i,hi,ei⟩:=getElem_of_mem he.mem
 obtain⟨j,hj,ej⟩:=getElem_of_mem hf.mem
 have ni:nth (t:=aK) (dX a) i=e:=by rw[aM (t:=aK) hi]; exact ei
 have nj:nth (t:=aK) (dX a) j=f:=by rw[aM (t:=aK) hj]; exact ej
 have c1:=V1 ge gf ⟨he.lo,he.hi⟩ ⟨hf.lo,hf.hi⟩ hne x1 x2
 have c2:=V1 gf ge ⟨hf.lo,hf.hi⟩ ⟨he.lo,he.hi⟩ (Ne.symm hne) (by rw[JO]; exact x1) (by rw[JO]; exact x2)
 rw[JO] at c2
 have hs:small (xR e f):=Dl e f _ c1.1
 have key:oD (some (xR e f)) ∈ n9 b a:=by
  rcases Nat.lt_or_ge j i with hij|hij
  ·exact Io h.g hij hi (by rw[ni,nj]; exact c1.1) (by rw[ni,nj]; exact c1.2) (by grind) (by grind)
  ·have hij:i < j:=by
    rcases Nat.lt_or_eq_of_le hij with h3|h3
    ·exact h3
    ·subst h3
     rw[ni] at nj
     rw[nj] at h1
     exact absurd h1 Rat.lt_irrefl
   exact Io h.g hij hj (by rw[ni,nj]; exact c2.1) (by rw[ni,nj]; exact c2.2) (by grind) (by grind)
 rcases QT h.g h.k key hs with h3|h3<;>grind
theorem dV.yY (h:dV b a k) (he:Xv b a k e) {y:Int} (hy:y=b.1.2\/y=b.2.2) (h1:(hR e (bn b a k) < (y:Rat)/\(y:Rat) < hR e (bn b a (k+1)))\/((y:Rat) < hR e (bn b a k)/\hR e (bn b a (k+1)) < (y:Rat))):False:=by
 have ge:=uq h.g e he.mem
 have hl:=h.lo
 have hh:=h.hi
 have hlt:=h.lt
 have hyb:-100<=y/\y<=100:=by
  have:=h.g.y1
  have:=h.g.y2
  rcases hy with rfl|rfl<;>omega
 obtain⟨i,hi,ei⟩:=getElem_of_mem he.mem
 have ni:nth (t:=aK) (dX a) i=e:=by rw[aM (t:=aK) hi]; exact ei
 have hs:bJ e ≠ 0:=fun hs=>by
  rw[BE e (bn b a k),BE e (bn b a (k+1)),hs] at h1
  grind
 have hH:eH e ≠ 0:=fun h0=>hs (by unfold bJ; rw[h0]; show (0:Rat) / _=0; grind)
 have hx:lR e y * bJ e=(eX e:Rat) * bJ e+(y:Rat) - (eY e:Rat):=by
  unfold lR
  rw[Rat.intCast_sub]; grind
 have hq:∀q,hR e q - (y:Rat)=bJ e * (q - lR e y):=fun q=>by
  unfold hR; grind
 have x12:bn b a k < lR e y/\lR e y < bn b a (k+1):=by
  have q1:=hq (bn b a k)
  have q2:=hq (bn b a (k+1))
  by_cases hp:0 < bJ e
  ·rcases h1 with ⟨h1,h2⟩|⟨h1,h2⟩
   ·have a1:0 < (lR e y - bn b a k) * bJ e:=by grind
    have a2:0 < (bn b a (k+1) - lR e y) * bJ e:=by grind
    have:=kX a1 hp
    have:=kX a2 hp
    grind
   ·have a1:0 < (bn b a k - lR e y) * bJ e:=by grind
    have a2:0 < (lR e y - bn b a (k+1)) * bJ e:=by grind
    have:=kX a1 hp
    have:=kX a2 hp
    grind
  ·have hp:0 < -bJ e:=by grind
   rcases h1 with ⟨h1,h2⟩|⟨h1,h2⟩
   ·have a1:0 < (bn b a k - lR e y) * -bJ e:=by grind
    have a2:0 < (lR e y - bn b a (k+1)) * -bJ e:=by grind
    have:=kX a1 hp
    have:=kX a2 hp
    grind
   ·have a1:0 < (lR e y - bn b a k) * -bJ e:=by grind
    have a2:0 < (bn b a (k+1) - lR e y) * -bJ e:=by grind
    have:=kX a1 hp
    have:=kX a2 hp
    grind
 obtain⟨e1,_⟩:=Wt ge hyb hH
 have hlo:=he.lo
 have hhi:=he.hi
 have hb:n5 e y=true:=by
  have key:∀a c:Int,c - a ≠ 0->decide (a=c)=false:=fun a c h=>ak J
  unfold n5
  rw[e1,yw.2 ⟨by grind,by grind⟩,key _ _ hH]; rfl
 have hO:nr e y=some (lR e y):=by unfold nr; rw[if_pos hb,e1]
 have key:oD (some (lR e y)) ∈ n9 b a:=Uq hi hy (by rw[ni]; exact hO) (by rw[ni]; exact hb) (by grind) (by grind)
 rcases QT h.g h.k key (r8 e y _ hO) with h3|h3<;>grind
def Bd (b:DV × DV) (a:List (List DV)) (k:Nat) (u v:Rat):Prop:=(∃e,Xv b a k e/\u=hR e (bn b a k)/\v=hR e (bn b a (k+1)))\/∃y:Int,(y=b.1.2\/y=b.2.2)/\u=(y:Rat)/\v=(y:Rat)
theorem dV.bd (h:dV b a k) {u v u' v':Rat} (h1:Bd b a k u v) (h2:Bd b a k u' v') (hl:u+v < u'+v'):u<=u'/\v<=v':=by
 rcases h1 with ⟨e,he,rfl,rfl⟩|⟨y,hy,rfl,rfl⟩<;>rcases h2 with ⟨f,hf,rfl,rfl⟩|⟨z,hz,rfl,rfl⟩
 ·constructor
  ·exact not_lt.1 fun c=>h.MZ hf he c (by grind)
  ·exact not_lt.1 fun c=>h.MZ he hf (by grind) c
 ·constructor
  ·exact not_lt.1 fun c=>h.yY he hz (.inr ⟨c,by grind⟩)
  ·exact not_lt.1 fun c=>h.yY he hz (.inl ⟨by grind,c⟩)
 ·constructor
  ·exact not_lt.1 fun c=>h.yY hf hy (.inl ⟨c,by grind⟩)
  ·exact not_lt.1 fun c=>h.yY hf hy (.inr ⟨by grind,c⟩)
 ·grind
theorem dV.x (h:dV b a k):gX (bn b a k)/\gX (bn b a (k+1)):=⟨GD h.g (by have:=h.k; omega),GD h.g h.k⟩
theorem dV.y (h:dV b a k) {u v:Rat} (h1:Bd b a k u v):gY u/\gY v:=by
 obtain⟨x1,x2⟩:=h.x
 have:=h.g.y1
 have:=h.g.y2
 rcases h1 with ⟨e,he,rfl,rfl⟩|⟨y,hy,rfl,rfl⟩
 ·have ge:=uq h.g e he.mem
  exact⟨Ui ge x1,Ui ge x2⟩
 ·have:gY (y:Rat):=IW (by rcases hy with rfl|rfl<;>omega)
  exact⟨this,this⟩
def Bn (b:DV × DV) (a:List (List DV)) (k:Nat) (p:DP):Prop:=∃u v,p=(oD (some u),oD (some v))/\Bd b a k u v
theorem LA:lvl fC=none:=by
 unfold lvl fC
 rw[gr eu]; rfl
theorem dV.lvl (h:dV b a k) {u v:Rat} (h1:Bd b a k u v):lvl (oD (some u),oD (some v))=some (u+v):=by
 obtain⟨y1,y2⟩:=h.y h1
 have e1:aw (oD (some u))=some u:=dT (kO y1)
 have e2:aw (oD (some v))=some v:=dT (kO y2)
 have h1:=dC
 have h2:=iD
 unfold DW.lvl
 rw[e1,e2]
 exact dO (cK (pQ y1 y2) (by unfold HN; omega) (by unfold HN; omega) (by unfold HN; omega))
theorem dV.qg (h:dV b a k) {p q:DP} (hp:p=fC\/Bn b a k p) (hq:q=fC\/Bn b a k q) (hab:qg p q=true):∃u v u' v',p=(oD (some u),oD (some v))/\q=(oD (some u'),oD (some v'))/\Bd b a k u v/\Bd b a k u' v'/\u'+v' < u+v:=by
 have hab:0 < bG (DW.lvl p) (DW.lvl q):=of_decide_eq_true hab
 rcases hp with rfl|⟨u,v,rfl,h1⟩
 ·rw[LA] at hab
  exact absurd hab (by show ¬ (0:Int) < 0; omega)
 ·rcases hq with rfl|⟨u',v',rfl,h2⟩
  ·rw[LA,h.lvl h1] at hab
   exact absurd hab (by show ¬ (0:Int) < 0; omega)
  ·rw[h.lvl h1,h.lvl h2] at hab
   exact⟨u,v,u',v',rfl,rfl,h1,h2,Ib.1 hab⟩
def Cn (b:DV × DV) (a:List (List DV)) (k:Nat) (c:dZ):Prop:=∃u v u' v',c=(oD (some (bn b a k)),oD (some (bn b a (k+1))),oD (some u),oD (some v),oD (some u'),oD (some v'))/\Bd b a k u v/\Bd b a k u' v'/\u+v < u'+v'
theorem dV.tc (h:dV b a k) {ce x y:DP} {l:List dZ} (hl:∀c ∈ l,Cn b a k c) (hc:Bn b a k ce) (hx:Bn b a k x) (hy:y=fC\/Bn b a k y):∀c ∈ tc (some (bn b a k)) (some (bn b a (k+1))) ce l x y,Cn b a k c:=by
 intro c hcm
 unfold DW.tc at hcm
 split at hcm
 ·rename_i hcond
  rw[Bool.and_eq_true] at hcond
  rcases mem_append.1 hcm with hcm|hcm
  ·exact hl c hcm
  ·rw[mem_singleton.1 hcm]
   obtain⟨u,v,u',v',rfl,rfl,b1,b2,b3⟩:=h.qg hy (.inr hx) hcond.1
   obtain⟨s,t,rfl,c1⟩:=hc
   obtain⟨_,_,_,_,e1,e2,d1,d2,d3⟩:=h.qg (.inr ⟨s,t,rfl,c1⟩) (.inr ⟨u',v',rfl,b2⟩) hcond.2
   have inj:∀{p q:Rat},oD (some p)=oD (some q)->p=q:=fun h=>Option.some.inj (ZK h)
   injection e1 with e11 e12
   injection e2 with e21 e22
   obtain rfl:=inj e11
   obtain rfl:=inj e12
   obtain rfl:=inj e21
   obtain rfl:=inj e22
   split
   ·exact⟨_,_,_,_,rfl,b2,c1,d3⟩
   ·exact⟨_,_,_,_,rfl,b2,b1,b3⟩
 ·exact hl c hcm
theorem dV.qj (h:dV b a k) {s:(DP × DP) × Int} (hs:(s.1.1=fC\/Bn b a k s.1.1)/\(s.1.2=fC\/Bn b a k s.1.2)) (he:e ∈ dX a):((qj (some (bn b a k)) (some (bn b a (k+1))) s e).1.1=fC\/Bn b a k (qj (some (bn b a k)) (some (bn b a (k+1))) s e).1.1)/\((qj (some (bn b a k)) (some (bn b a (k+1))) s e).1.2=fC\/Bn b a k (qj (some (bn b a k)) (some (bn b a (k+1))) s e).1.2):=by
 unfold DW.qj
 split
 ·rename_i hsp
  obtain⟨s1,s2⟩:=yw.1 hsp
  have ge:=uq h.g e he
  obtain⟨x1,x2⟩:=h.x
  have hb:Bn b a k (D0 (some (bn b a k)) (some (bn b a (k+1))) e):=⟨_,_,by unfold D0; rw[u6 ge x1,u6 ge x2],.inl ⟨e,⟨he,s1,s2⟩,rfl,rfl⟩⟩
  split
  ·exact⟨.inr hb,hs.2⟩
  ·exact⟨hs.1,.inr hb⟩
 ·exact hs
theorem Nc {l:List (List DV)} {i:Nat} (hi:i < l.length):∀n,i < n->n<=l.length->∀e ∈ px (nth (t:=.slice an) l i) i,e ∈ qf l n
 | 0,h,_,_,_=>absurd h (not_lt_zero _)
 | n+1,h,hn,e,he=>by
  rw[qf,mem_append]
  by_cases d:i=n
  ·subst d; exact .inr he
  ·exact .inl (Nc hi n J J e he)
theorem dV.lD (h:dV b a k) {es:List DE} (hes:∀e ∈ es,e ∈ dX a):∀n,n<=es.length->((lD es (some (bn b a k)) (some (bn b a (k+1))) n).1.1=fC\/Bn b a k (lD es (some (bn b a k)) (some (bn b a (k+1))) n).1.1)/\((lD es (some (bn b a k)) (some (bn b a (k+1))) n).1.2=fC\/Bn b a k (lD es (some (bn b a k)) (some (bn b a (k+1))) n).1.2)
 | 0,_=>⟨.inl rfl,.inl rfl⟩
 | n+1,hn=>h.qj (h.lD hes n J) (hes _ (aS (t:=aK) J))
theorem dV.lP (h:dV b a k):∀n,n<=a.length->∀s ∈ lP a (some (bn b a k)) (some (bn b a (k+1))) n,(s.1=fC\/Bn b a k s.1)/\(s.2=fC\/Bn b a k s.2)
 | 0,_,s,hs=>by cases hs
 | n+1,hn,s,hs=>by
  rw[DW.lP] at hs
  split at hs
  ·rcases mem_append.1 hs with hs|hs
   ·exact h.lP n J s hs
   ·rw[mem_singleton.1 hs]
    exact h.lD (fun e he=>Nc (i:=n) J _ J (le_refl _) e he) _ (le_refl _)
  ·exact h.lP n J s hs
theorem GO (y:Int) (hy:y=b.1.2\/y=b.2.2):Bn b a k (wx y):=⟨_,_,rfl,.inr ⟨y,hy,rfl,rfl⟩⟩
theorem dV.jE (h:dV b a k) {S:List DK} (hS:∀s ∈ S,(s.1=fC\/Bn b a k s.1)/\(s.2=fC\/Bn b a k s.2)) {fl ce:DP} (hf:Bn b a k fl) (hc:Bn b a k ce):∀n,n<=S.length->Bn b a k (jE S (some (bn b a k)) (some (bn b a (k+1))) fl ce n).1/\∀c ∈ (jE S (some (bn b a k)) (some (bn b a (k+1))) fl ce n).2,Cn b a k c
 | 0,_=>⟨hf,fun c hc=>by cases hc⟩
 | n+1,hn=>by
  obtain⟨i1,i2⟩:=h.jE hS hf hc n J
  obtain⟨s1,s2⟩:=hS _ (aS (t:=dK) (show n < S.length from J))
  refine⟨?_,h.tc i2 hc i1 s1⟩
  show Bn b a k (if _ then _ else _)
  split
  ·rename_i hab
   obtain⟨u,v,_,_,e1,_,b1,_⟩:=h.qg s2 (.inr i1) hab
   exact⟨u,v,e1,b1⟩
  ·exact i1
theorem dV.cells (h:dV b a k):∀c ∈ AA b a (some (bn b a k)) (some (bn b a (k+1))),Cn b a k c:=by
 have hS:∀s ∈ pY a (some (bn b a k)) (some (bn b a (k+1))),(s.1=fC\/Bn b a k s.1)/\(s.2=fC\/Bn b a k s.2):=fun s hs=>h.lP _ (le_refl _) s (uU hs)
 obtain⟨i1,i2⟩:=h.jE hS (GO (b:=b) (a:=a) (k:=k) b.1.2 (.inl rfl)) (GO b.2.2 (.inr rfl)) _ (le_refl _)
 exact h.tc i2 (GO b.2.2 (.inr rfl)) i1 (.inr (GO b.2.2 (.inr rfl)))
theorem VX (h:kh b a):∀n,n+1<=(gL b a).length->∀c ∈ p9 b a (gL b a) n,∃k,dV b a k/\Cn b a k c
 | 0,_,c,hc=>by cases hc
 | n+1,hn,c,hc=>by
  rw[p9] at hc
  rcases mem_append.1 hc with hc|hc
  ·exact VX h n J c hc
  ·have hs:dV b a n:=⟨h,J⟩
   rw[(ur h (show n < (gL b a).length from J)).1,(ur h (show n+1 < (gL b a).length from J)).1] at hc
   exact⟨n,hs,hs.cells c hc⟩
theorem LY (h:kh b a):1<=(gL b a).length:=by
 have:oD (aV b.1.1) ∈ gL b a:=(Ee h).2 (List.mem_append_right _ mem_cons_self)
 exact List.length_pos_of_mem this
theorem abh (h:kh b a):∀c ∈ fc b a,∃k,dV b a k/\Cn b a k c:=VX h _ (by have:=LY h; omega)
end
def Fw (l:List DP) (bN:List Int) (a:Int) (w:List DR) (i:Nat):Prop :=
 0<=pV (vl w i)/\bG (vl w i) (some ((b9 l.length bN i * b9 l.length bN i:Int):Rat))<=0 ∧
 (0 < i->(iF (bo (vl w i) (vl w (i - 1)))).isSome=true/\bG (iF (bo (vl w i) (vl w (i - 1)))) (gn a (pn l (i - 1)) (pn l (i - 1+1)))<=0)
theorem JX (l:List DP) (bN:List Int) (a:Int) (w:List DR) (hok:kD l.length bN) (ha:1<=a/\a<=1000) (hw:w.length=l.length) (hr:∀i,i < w.length->br (nth (t:=au) w i)=true) (hg:∀i,i+1 < l.length->(gn a (pn l i) (pn l (i+1))).isSome=true) (hl:l.length<=1000000000) :
  Fn prog 32 [⟨.slice ax,l⟩,⟨aq,bN⟩,⟨.int,a⟩,⟨.slice au,w⟩] false [⟨.bool,Kr (∀i,i < l.length->Fw l bN a w i)⟩]:=by
 have h0:0 < l.length:=by have:=hok.1; omega
 have c1:=xV l.length bN (by have:=hok.2.1; omega)
 rw[V3 hok] at c1
 have hn:((l.length:Int)).toNat=l.length:=J
 rw[hn] at c1
 have hsl:=ix l.length bN l.length
 have c2:=vY a
 rw[aj ha] at c2
 have c3:=v8 w
 have hall:(w.any fun r=>!br r)=false:=by
  rw[any_eq_false]
  intro r hr2
  obtain⟨i,hi,rfl⟩:=getElem_of_mem hr2
  have:=hr i hi
  rw[aM hi] at this
  rw[this]; decide
 rw[hall] at c3
 have c4:=Jy l a ha h0 hl hg
 have hgl:=qS l a (l.length - 1)
 have hne:gU l.length bN l.length ≠ []:=fun e=>by rw[e] at hsl; simp at hsl; omega
 have dW:((w.length:Int)=(l.length:Int)):=J
 refine fe func32 ntmps32 results32 fun hwf=>?_
 refine Bz c1 ?_
 refine kT.CA hne ?_
 refine Bz c2 ?_
 refine Tz dW ?_
 refine cw c3 ?_
 refine Bz c4 ?_
 refine aF.intro _ _ _ (fun i:Nat=>⟨[(3,.sl au w),(9,.row 0 0),(10,.sl au (qi l a (l.length - 1))),(46,.sl au w),(47,.sc (.int .i64 w.length)),(48,.sc (.int .i64 i))],[(0,.cU au (gU l.length bN l.length))]⟩) (fun i=>i<=l.length/\∀j,j < i->Fw l bN a w j) (fun i=>l.length - i) 0 ?_ ⟨zero_le _,fun j h=>absurd h (not_lt_zero _)⟩ ?_
 ·exact WK
 ·rintro i ⟨hi,hall2⟩
  refine Nz ?_
  refine ao ?_ ?_<;>intro hA
  ·have hlt:i < l.length:=J
   have vk:∀j,j < w.length->oD (vl w j)=nth (t:=au) w j:=fun j hj=>bg (hr j hj)
   have hLe:=zp hok i
   have hsq:=G4 hLe
   have okL:aY (some ((b9 l.length bN i * b9 l.length bN i:Int):Rat)):=fun q hq=>by
    injection hq with hq; subst hq
    exact⟨le_trans (db (n:=(b9 l.length bN i * b9 l.length bN i).natAbs) J) ae,le_trans (db (n:=1) ae) ae⟩
   have em:nth (t:=au) (gU l.length bN l.length) i=oD (some ((b9 l.length bN i * b9 l.length bN i:Int):Rat)):=by
    rw[aM (by rw[hsl]; exact hlt)]
    simp only[gU,getElem_map,getElem_range]
    exact ij _
   have c5:=qB (vl w i)
   rw[vk i J] at c5
   have c6:=bR (vl w i) (some ((b9 l.length bN i * b9 l.length bN i:Int):Rat)) (ny _ _) okL
   rw[vk i J,<-em] at c6
   by_cases s1:pV (vl w i) < 0
   ·rw[jb (p:=∀i,i < l.length->Fw l bN a w i) fun h=>by have:=(h i hlt).1; omega]
    refine Bz c5 ?_
    exact Gz s1
   ·by_cases s2:0 < bG (vl w i) (some ((b9 l.length bN i * b9 l.length bN i:Int):Rat))
    ·rw[jb (p:=∀i,i < l.length->Fw l bN a w i) fun h=>by have:=(h i hlt).2.1; omega]
     refine Bz c5 ?_
     refine fy s1 hsl ?_
     refine cw c6 ?_
     refine Nz ?_
     exact Gz s2
    ·by_cases s3:(i:Int)=0
     ·have hi0:i=0:=J
      have d3:decide ((i:Int)=0)=true:=aj s3
      refine Bz c5 ?_
      refine fy s1 hsl ?_
      refine cw c6 ?_
      refine Nz ?_
      refine Tz s2 ?_
      refine Tz d3 ?_
      refine az.mk (i+1) ?_ ⟨J,fun j hj=>?_⟩ J
      ·exact WK
      ·rw[show j=i from J]
       exact⟨J,J,fun h=>absurd h J⟩
     ·have d3:decide ((i:Int)=0)=false:=ak s3
      have e1:((i:Int) - 1).toNat=i - 1:=J
      have hgi:=hg (i - 1) J
      have c7:Fn prog 94 [⟨au,nth (t:=au) w i⟩,⟨au,nth (t:=au) w ((i:Int) - 1).toNat⟩] true [⟨au,oD (bo (vl w i) (vl w (i - 1)))⟩]:=by
       have:=cZ (vl w i) (vl w (i - 1)) (ny _ _) (ny _ _)
       rw[vk i J,vk (i - 1) J] at this
       rw[e1]; exact this
      have c8:=DJ (bo (vl w i) (vl w (i - 1)))
      have c9:=h9 (iF (bo (vl w i) (vl w (i - 1))))
      have c10:Fn prog 80 [⟨au,oD (iF (bo (vl w i) (vl w (i - 1))))⟩,⟨au,nth (t:=au) (qi l a (l.length - 1)) ((i:Int) - 1).toNat⟩] false [⟨.int,bG (iF (bo (vl w i) (vl w (i - 1)))) (gn a (pn l (i - 1)) (pn l (i - 1+1)))⟩]:=by
       rw[e1,ER l a (k:=l.length - 1) (i:=i - 1) J]
       exact bR _ _ (rq (dJ _ _)) (H5 _ _ _)
      refine Bz c5 ?_
      refine fy s1 hsl ?_
      refine cw c6 ?_
      refine Nz ?_
      refine Tz s2 ?_
      refine Tz d3 ?_
      refine cw c7 ?_
      refine Cz c8 ?_
      cases s4:(iF (bo (vl w i) (vl w (i - 1)))).isSome<;>rw[s4] at c9
      ·rw[jb (p:=∀i,i < l.length->Fw l bN a w i) fun h=>by have:=((h i hlt).2.2 J).1; rw[s4] at this; cases this]
       refine Sz ?_
       refine cw c9 ?_
       all_goals exact Fz
      ·by_cases s5:0 < bG (iF (bo (vl w i) (vl w (i - 1)))) (gn a (pn l (i - 1)) (pn l (i - 1+1)))
       ·rw[jb (p:=∀i,i < l.length->Fw l bN a w i) fun h=>by have:=((h i hlt).2.2 J).2; omega]
        refine Bz c9 ?_
        refine Tz hgl ?_
        refine cw c10 ?_
        refine Nz ?_
        exact Gz s5
       ·refine Bz c9 ?_
        refine Tz hgl ?_
        refine cw c10 ?_
        refine Nz ?_
        refine Tz s5 ?_
        refine az.mk (i+1) ?_ ⟨J,fun j hj=>?_⟩ J
        ·exact WK
        ·by_cases h:j < i
         ·exact hall2 j h
         ·rw[show j=i from J]
          exact⟨J,J,fun _=>⟨s4,J⟩⟩
  ·rw[jr (p:=∀i,i < l.length->Fw l bN a w i) fun j hj=>hall2 j J]
   try simp (maxSteps:=9^9) only[go_sem]
def xA (p:DP):Prop:=(p.1.1.2.length<=1048576/\p.1.2.length<=1048576)/\(p.2.1.2.length<=1048576/\p.2.2.length<=1048576)
theorem nS (p:DP) (h:xA p):Fn prog 73 [⟨ax,p⟩] true [⟨ax,p⟩]:=by
 obtain⟨⟨h1,h2⟩,h3,h4⟩:=h
 have c1:=nc p.1 J J
 have c2:=nc p.2 J J
 refine fe func73 ntmps73 results73 fun hwf=>?_
 refine Cz c1 ?_
 refine cw c2 ?_
 all_goals exact Fz
def kg (p:DS) (l:List DS):List DP:=p.2 :: l.map fun x=>x.2
theorem qU (p:DS) (l:List DS):(kg p l).length=l.length+1:=by simp[kg]
theorem U6 (p:DS) {l:List DS} {i:Nat} (h:i < l.length):kg p (l.take (i+1))=kg p (l.take i)++[(nth (t:=bu) l i).2]:=by
 unfold kg
 rw[aM h,List.take_succ_eq_append_getElem h,List.map_append]; rfl
theorem oq (p:DS) (l:List DS) (hp:xA p.2) (hl:∀x ∈ l,xA x.2) (hn:l.length<=900000000):Fn prog 23 [⟨bu,p⟩,⟨.slice bu,l⟩] true [⟨.slice ax,kg p l⟩]:=by
 have c1:=nS p.2 hp
 refine fe func23 ntmps23 results23 fun hwf=>?_
 refine Bz c1 ?_
 refine aF.intro _ _ _ (fun i:Nat=>⟨[(5,.row 5 0),(12,.sl bu l),(13,.sc (.int .i64 l.length)),(14,.sc (.int .i64 i))],[(5,.row 42 ax 0 true (kg p (l.take i)))]⟩) (fun i=>i<=l.length) (fun i=>l.length - i) 0 ?_ (zero_le _) ?_
 ·refine Wk.mk [] ?_
  refine Nz ?_
  try (and_intros<;>first|rfl|omega|exact⟨_,rfl⟩)
  all_goals (first|exact⟨rfl,rfl⟩|rfl)
 ·rintro i hi
  refine Nz ?_
  refine ao ?_ ?_<;>intro hA
  ·have hlt:i < l.length:=J
   have hml:(kg p (l.take i)).length=i+1:=by rw[qU,length_take]; omega
   have c2:=nS (nth (t:=bu) l i).2 (hl _ (by rw[aM hlt]; exact getElem_mem hlt))
   have e:=U6 p hlt
   refine Bz c2 ?_
   refine Tz hml ?_
   refine az.mk (i+1) ?_ J J
   refine Wk.mk [] ?_
   refine Nz ?_
   try (and_intros<;>first|rfl|omega|exact⟨_,rfl⟩)
   all_goals (rw[e]; exact⟨J,rfl⟩)
  ·rw[take_of_length_le J]
   try simp (maxSteps:=9^9) only[go_sem]
def zS (l:List DS) (w:List DR):Nat->List DR
 | 0=>w
 | i+1=>if (nth (t:=bu) l i).1=0 then zS l w i else ((zS l w i).set i (fE 0)).set (i+1) (fE 0)
theorem uJ (l:List DS) (w:List DR) (i:Nat):(zS l w i).length=w.length:=by
 induction i with
 | zero=>rfl
 | succ i ih =>
  unfold zS
  split
  ·exact ih
  ·rw[length_set,length_set,ih]
theorem SP {w:List DR} (h:CN w) {i:Nat} (hi:i < w.length):CN (w.set i (fE 0)):=fun k hk=>by
 rw[length_set] at hk
 unfold vl
 rw[yO hi]
 split
 ·rw[Qy,gr WC]
 ·exact h k hk
theorem abp {l:List DS} {w:List DR} (h:CN w) (i:Nat) (hi:i < w.length):CN (zS l w i):=by
 induction i with
 | zero=>exact h
 | succ i ih =>
  unfold zS
  split
  ·exact ih J
  ·exact SP (SP (ih J) (by rw[uJ]; omega)) (by rw[length_set,uJ]; omega)
def Aa (p:DS) (l:List DS) (lim a:Int):List DR:=@ite _ (kD ((l.length+1:Nat):Int) (replicate l.length lim)) (Classical.propDecidable _) (pS (kg p l) a (zS l (gU ((l.length+1:Nat):Int) (replicate l.length lim) (l.length+1)) l.length)) []
theorem W7 {p:DS} {l:List DS} {lim a:Int} (h:kD ((l.length+1:Nat):Int) (replicate l.length lim)):Aa p l lim a=pS (kg p l) a (zS l (gU ((l.length+1:Nat):Int) (replicate l.length lim) (l.length+1)) l.length):=if_pos h
theorem abN {p:DS} {l:List DS} {lim a:Int} (h:¬ kD ((l.length+1:Nat):Int) (replicate l.length lim)):Aa p l lim a=[]:=if_neg h
theorem wJ (n:Int) (l:List Int) (h:¬ kD n l):Fn prog 85 [⟨.int,n⟩,⟨aq,l⟩] false [⟨.dr .nil,()⟩]:=by
 by_cases h1:n < 1
 ·refine fe func85 ntmps85 results85 fun hwf=>?_
  try simp (maxSteps:=9^9) only[go_sem,h1]
 by_cases h2:(l.length:Int)=n - 1
 rotate_left
 ·refine fe func85 ntmps85 results85 fun hwf=>?_
  have hI:bU n:=hwf ⟨.int,n⟩ ah
  have hI2:=hI.2
  exact CW h1 h2
 cases h3:l.any (fun x=>!decide (1<=x/\x<=1000))
 ·exact absurd ⟨J,h2,fun x hx=>by
   rw[any_eq_false] at h3
   have:=h3 x hx
   simpa using this⟩ h
 ·refine fe func85 ntmps85 results85 fun hwf=>?_
  have hI:bU n:=hwf ⟨.int,n⟩ ah
  have hI2:=hI.2
  have hi:bU (n - 1):=by constructor<;>omega
  refine fy h1 h2 ?_
  refine cw (gm _ _ sT l) ?_
  refine Nz ?_
  try simp (maxSteps:=9^9) only[go_sem,h3]
def Mo (M:Int):Prop:=1<=M/\M * 1000000000000 < ((pw 24:Nat):Int)
section
variable {M:Int}
theorem RZ (hM:Mo M):(0:Rat) < (M:Rat):=Rat.intCast_lt_intCast.2 (show (0:Int) < M by have:=hM.1; omega)
theorem vx (hM:Mo M) {z:Int} (h:-(M * 1000000000000)<=z/\z<=M * 1000000000000):small (mq M z):=by
 obtain⟨h0,h5⟩:=hM
 exact VZ h0 J J
theorem JE (a b:Int):mq M a+mq M b=mq M (a+b):=by unfold mq; rw[Rat.intCast_add]; grind
theorem aaP (a b:Int):mq M a - mq M b=mq M (a - b):=by unfold mq; rw[Rat.intCast_sub]; grind
theorem ZD (a:Int):-mq M a=mq M (-a):=by unfold mq; rw[Rat.intCast_neg]; grind
theorem Ue:mq M 0=0:=by unfold mq; rw[show ((0:Int):Rat)=0 from rfl]; grind
theorem ab6 (hM:Mo M) {a b:Int}:mq M a < mq M b ↔ a < b:=by
 have h:=RZ hM
 unfold mq
 rw[Rat.div_lt_iff h,Rat.div_mul_cancel (Ne.symm (Rat.ne_of_lt h))]
 exact Rat.intCast_lt_intCast
theorem yy (hM:Mo M) {a b:Int}:mq M a<=mq M b ↔ a<=b:=by
 rw[<-not_lt,ab6 hM]; omega
theorem Jl (hM:Mo M) {z:Int} (h:-(M * 1000000000000)<=z/\z<=M * 1000000000000):fZ (mq M z)=some (mq M z):=dO (vx hM h)
theorem NM (hM:Mo M) {a b:Int} (h:-(M * 1000000000000)<=a+b/\a+b<=M * 1000000000000):bX (some (mq M a)) (some (mq M b))=some (mq M (a+b)):=by
 rw[<-JE]
 exact (congrArg fZ (JE a b)).trans (Jl hM h) |>.trans (by rw[JE])
theorem Eg (hM:Mo M) {a b:Int} (h:-(M * 1000000000000)<=a - b/\a - b<=M * 1000000000000):bo (some (mq M a)) (some (mq M b))=some (mq M (a - b)):=by
 have e:mq M a+-mq M b=mq M (a - b):=by rw[<-Rat.sub_eq_add_neg,aaP]
 exact (congrArg fZ e).trans (Jl hM h)
theorem PZ (hM:Mo M) {a b:Int}:bG (some (mq M a)) (some (mq M b))<=0 ↔ a<=b:=by
 show eI _ _<=0 ↔ _
 rw[mu,yy hM]
theorem Qb (hM:Mo M) (a b:Int):bP (some (mq M a)) (some (mq M b))=some (mq M (min a b)):=by
 show (if eI (mq M a) (mq M b)<=0 then some (mq M a) else some (mq M b))=_
 by_cases h:a<=b
 ·rw[if_pos (mu.2 ((yy hM).2 h)),Int.min_eq_left h]
 ·rw[if_neg fun h2=>h ((yy hM).1 (mu.1 h2)),Int.min_eq_right J]
theorem Zt (hM:Mo M) (a b:Int):iN (some (mq M a)) (some (mq M b))=some (mq M (max a b)):=by
 show (if 0<=eI (mq M a) (mq M b) then some (mq M a) else some (mq M b))=_
 by_cases h:b<=a
 ·rw[if_pos (qR.2 ((yy hM).2 h)),Int.max_eq_left h]
 ·rw[if_neg fun h2=>h ((yy hM).1 (qR.1 h2)),Int.max_eq_right J]
theorem Qw (hM:Mo M) {a:Int}:0<=pV (some (mq M a)) ↔ 0<=a:=by
 show 0<=eI _ 0 ↔ _
 rw[<-Ue (M:=M),qR,yy hM]
theorem EC (hM:Mo M) {a:Int}:iF (some (mq M a))=some (mq M (a.natAbs:Int)):=by
 have hc:pV (some (mq M a)) < 0 ↔ a < 0:=by have:=Qw hM (a:=a); omega
 unfold iF
 by_cases h:a < 0
 ·rw[if_pos (hc.2 h)]
  show some (-mq M a)=_
  rw[ZD,show ((a.natAbs:Nat):Int)=-a from J]
 ·rw[if_neg fun h2=>h (hc.1 h2),show ((a.natAbs:Nat):Int)=a from J]
def mp (M:Int) (v:Int × Int):DP:=(fo (mq M v.1),fo (mq M v.2))
def tz (M:Int) (v:Int × Int):Prop:=(-(20000 * M)<=v.1/\v.1<=20000 * M)/\(-(20000 * M)<=v.2/\v.2<=20000 * M)
def mL (u v:Int × Int):Int:=max ((v.1 - u.1).natAbs:Int) ((v.2 - u.2).natAbs:Int)
theorem Rz {u v:Int × Int} (hu:tz M u) (hv:tz M v):0<=mL u v/\mL u v<=40000 * M:=by
 unfold mL
 obtain⟨⟨_,_⟩,_,_⟩:=hu
 obtain⟨⟨_,_⟩,_,_⟩:=hv
 omega
theorem Xh (hM:Mo M) {v:Int × Int} (hv:tz M v):aw (mp M v).1=some (mq M v.1)/\aw (mp M v).2=some (mq M v.2):=by
 obtain⟨⟨_,_⟩,_,_⟩:=hv
 have:=hM.1
 exact⟨dT (vx hM J),dT (vx hM J)⟩
theorem abC (hM:Mo M) {u v:Int × Int} (hu:tz M u) (hv:tz M v):wz (mp M u) (mp M v)=some (mq M (mL u v)):=by
 obtain⟨a1,a2⟩:=Xh hM hu
 obtain⟨b1,b2⟩:=Xh hM hv
 obtain⟨⟨_,_⟩,_,_⟩:=hu
 obtain⟨⟨_,_⟩,_,_⟩:=hv
 have:=hM.1
 unfold wz
 rw[a1,a2,b1,b2,Eg hM J,Eg hM J,EC hM,EC hM,Zt hM]
 rfl
theorem abf (hM:Mo M) {u v:Int × Int} (hu:tz M u) (hv:tz M v):gn 3 (mp M u) (mp M v)=some (mq M (6 * mL u v)):=by
 have h1:=Rz hu hv
 have:=hM.1
 have e:(((2 * 3:Int)):Rat) * mq M (mL u v)=mq M (6 * mL u v):=by
  show ((6:Int):Rat) * mq M (mL u v)=_
  unfold mq
  rw[intCast_mul]; grind
 unfold gn
 rw[abC hM hu hv]
 exact (congrArg fZ e).trans (Jl hM J)
def mG (vs:List (Int × Int)) (i:Nat):Int:=if i+1 < vs.length then 6 * mL (vs.getD i (0,0)) (vs.getD (i+1) (0,0)) else 0
def Fp (M:Int) (vs:List (Int × Int)):Prop:=∀v ∈ vs,tz M v
variable {vs:List (Int × Int)}
theorem VT {i:Nat} (h:i < vs.length):pn (vs.map (mp M)) i=mp M (vs.getD i (0,0)):=by
 unfold pn
 rw[aM (t:=ax) (by rw[length_map]; exact h),getElem_map,List.getD_eq_getElem?_getD,getElem?_eq_getElem h]; rfl
theorem GV (h:Fp M vs) {i:Nat} (hi:i < vs.length):tz M (vs.getD i (0,0)):=by
 rw[List.getD_eq_getElem?_getD,getElem?_eq_getElem hi]; exact h _ (getElem_mem hi)
theorem Kv (hM:Mo M) (h:Fp M vs) (i:Nat):0<=mG vs i/\mG vs i<=240000 * M:=by
 have:=hM.1
 unfold mG
 split
 ·rename_i hi
  have h1:=Rz (GV h (i:=i) J) (GV h hi)
  omega
 ·omega
theorem Ip (hM:Mo M) (h:Fp M vs) {i:Nat} (hi:i+1 < vs.length):gn 3 (pn (vs.map (mp M)) i) (pn (vs.map (mp M)) (i+1))=some (mq M (mG vs i)):=by
 rw[VT J,VT hi,abf hM (GV h J) (GV h hi)]
 unfold mG
 rw[if_pos hi]
section
variable {l:List DP} {w:List DR} {L G:Nat->Int}
theorem mfw (hM:Mo M) (hL:∀i,i < w.length->vl w i=some (mq M (L i))) (hG:∀i,i+1 < w.length->gn 3 (pn l i) (pn l (i+1))=some (mq M (G i))) (hLb:∀i,0<=L i/\L i<=20000 * M) (hGb:∀i,0<=G i/\G i<=240000 * M) :
  ∀k,k < w.length->∀i,i < w.length->vl (r9 l 3 k w) i=some (mq M (if i<=k then fI L G i else L i))
 | 0,_,i,hi=>by
  rw[r9,hL i hi]
  by_cases h:i<=0
  ·rw[if_pos h,show i=0 from J]; rfl
  ·rw[if_neg h]
 | k+1,hk,i,hi=>by
  have ih:=mfw hM hL hG hLb hGb k J
  rw[r9,xv (by rw[kq]; exact hk)]
  by_cases h:i=k+1
  ·subst h
   rw[if_pos rfl,ih (k+1) hk,ih k J,hG k hk,if_neg J,if_pos (le_refl _),if_pos (le_refl _)]
   have h1:=V9 (L:=L) (G:=G) k
   have h2:=G3 (fun i=>(hLb i).1) (fun i=>(hGb i).1) k
   have h3:=hLb k
   have h4:=hGb k
   have h5:=hM.1
   rw[NM hM J,Qb hM]; rfl
  ·rw[if_neg h,ih i hi]
   by_cases h1:i<=k
   ·rw[if_pos h1,if_pos J]
   ·rw[if_neg h1,if_neg J]
theorem mbw (hM:Mo M) (hw:0 < w.length) (hL:∀i,i < w.length->vl w i=some (mq M (fI L G i))) (hG:∀i,i+1 < w.length->gn 3 (pn l i) (pn l (i+1))=some (mq M (G i))) (hLb:∀i,0<=L i/\L i<=20000 * M) (hGb:∀i,0<=G i/\G i<=240000 * M) :
  ∀k,k < w.length->∀i,i < w.length->vl (uc l 3 w.length k w) i=some (mq M (if w.length - 1 - k<=i then pI L G w.length i else fI L G i))
 | 0,_,i,hi=>by
  rw[uc,hL i hi]
  by_cases h:w.length - 1 - 0<=i
  ·rw[if_pos h,show i=w.length - 1 from J,NW]
  ·rw[if_neg h]
 | k+1,hk,i,hi=>by
  have ih:=mbw hM hw hL hG hLb hGb k J
  rw[uc,xv (by rw[oS]; omega)]
  by_cases h:i=w.length - 2 - k
  ·have hi1:i+1 < w.length:=J
   rw[if_pos h,<-h,ih i hi,ih (i+1) hi1,hG i hi1,if_neg J,if_pos J,if_pos J]
   have h1:=Wl (L:=L) (G:=G) hi1
   have h2:=WV (L:=L) (G:=G) (n:=w.length) (fun i=>(hLb i).1) (fun i=>(hGb i).1) (i+1)
   have h3:=hLb (i+1)
   have h4:=hGb i
   have h5:=hM.1
   rw[NM hM J,Qb hM,yF hi1]
  ·rw[if_neg h,ih i hi]
   by_cases h1:w.length - 1 - k<=i
   ·rw[if_pos h1,if_pos J]
   ·rw[if_neg h1,if_neg J]
theorem abq (hM:Mo M) (hw:0 < w.length) (hL:∀i,i < w.length->vl w i=some (mq M (L i))) (hG:∀i,i+1 < w.length->gn 3 (pn l i) (pn l (i+1))=some (mq M (G i))) (hLb:∀i,0<=L i/\L i<=20000 * M) (hGb:∀i,0<=G i/\G i<=240000 * M) {i:Nat} (hi:i < w.length) :
  vl (gk l 3 w) i=some (mq M (pI L G w.length i)):=by
 unfold gk
 have h1:=mfw hM hL hG hLb hGb (w.length - 1) J
 have hl:=kq l 3 (w.length - 1) w
 have h2:=mbw (l:=l) (w:=r9 l 3 (w.length - 1) w) (L:=L) (G:=G) hM J (fun i hi=>by rw[h1 i J,if_pos J]) (fun i hi=>hG i J) hLb hGb (w.length - 1) J i J
 rw[hl] at h2
 rw[h2,if_pos J]
end
def zI (l:List DS) (L:Nat->Int):Nat->Nat->Int
 | 0,k=>L k
 | i+1,k=>if (nth (t:=bu) l i).1=0 then zI l L i k else if k=i+1 then 0 else if k=i then 0 else zI l L i k
section
variable {l:List DS} {L:Nat->Int} {w:List DR}
theorem L5 {i k:Nat} (hi:i < w.length):vl (w.set i (fE 0)) k=if k=i then some (mq M 0) else vl w k:=by
 unfold vl
 rw[yO hi]
 split
 ·rw[Qy,gr WC,Ue]; rfl
 ·rfl
theorem WR (hw:w.length=l.length+1) (hL:∀k,k < w.length->vl w k=some (mq M (L k))):∀i,i<=l.length->∀k,k < w.length->vl (zS l w i) k=some (mq M (zI l L i k))
 | 0,_,k,hk=>hL k hk
 | i+1,hi,k,hk=>by
  have ih:=WR hw hL i J k hk
  have hz:=uJ l w i
  unfold zS zI
  split
  ·exact ih
  ·rw[L5 (M:=M) (by rw[length_set]; omega),L5 (M:=M) J,ih]
   split
   ·rfl
   ·split<;>rfl
theorem Cr (hL:∀k,0<=L k):∀i k,0<=zI l L i k/\zI l L i k<=L k
 | 0,k=>⟨hL k,Int.le_refl _⟩
 | i+1,k=>by
  have:=Cr hL i k
  have:=hL k
  unfold zI
  split
  ·omega
  ·split
   ·omega
   ·split<;>omega
theorem NQ (hL:∀k,0<=L k):∀i j,j < i->(nth (t:=bu) l j).1 ≠ 0->zI l L i j=0/\zI l L i (j+1)=0
 | 0,j,h,_=>absurd h (not_lt_zero _)
 | i+1,j,h,ht=>by
  by_cases e:j=i
  ·subst e
   unfold zI
   rw[if_neg ht,if_neg ht,if_neg J,if_pos rfl,if_pos rfl]
   exact⟨rfl,rfl⟩
  ·have ih:=NQ hL i j J ht
   unfold zI
   rw[ih.1,ih.2]
   refine⟨?_,?_⟩<;>(repeat' split)<;>rfl
end
def l10 (M:Int) (n:Nat) (i:Nat):Int:=M * (b9 ((n+1:Nat):Int) (replicate n 10) i * b9 ((n+1:Nat):Int) (replicate n 10) i)
theorem Hp {n i:Nat} (h:i < n):ni (replicate n (10:Int)) i=10:=by
 rw[cd (by rw[length_replicate]; exact h),getElem_replicate]
theorem abg (n i:Nat):b9 ((n+1:Nat):Int) (replicate n 10) i=0\/b9 ((n+1:Nat):Int) (replicate n 10) i=10:=by
 unfold b9
 split
 ·rw[Hp J,Hp J]; exact .inr rfl
 ·exact .inl rfl
theorem oX (hM:Mo M) (n i:Nat):0<=l10 M n i/\l10 M n i<=100 * M:=by
 have:=hM.1
 unfold l10
 rcases abg n i with h|h<;>rw[h]<;>omega
theorem JA (hM:Mo M) (n i:Nat):(((b9 ((n+1:Nat):Int) (replicate n 10) i * b9 ((n+1:Nat):Int) (replicate n 10) i:Int)):Rat)=mq M (l10 M n i):=by
 have h:=RZ hM
 unfold mq l10
 rw[intCast_mul (a:=M)]
 grind
theorem V2 (n:Nat):kD ((n+1:Nat):Int) (replicate n 10):=⟨J,by rw[length_replicate]; omega,fun x hx=>by rw[(mem_replicate.1 hx).2]; omega⟩
theorem UF (hM:Mo M) (n:Nat) {i:Nat} (hi:i < n+1):vl (gU ((n+1:Nat):Int) (replicate n 10) (n+1)) i=some (mq M (l10 M n i)):=by
 have e:nth (t:=au) (gU ((n+1:Nat):Int) (replicate n 10) (n+1)) i=fE (b9 ((n+1:Nat):Int) (replicate n 10) i * b9 ((n+1:Nat):Int) (replicate n 10) i):=by
  rw[aM (by rw[ix]; exact hi)]; simp[gU]
 have hb:=oX hM n i
 have:=hM.1
 unfold vl
 rw[e,ij,<-JA hM]
 refine dT ?_
 rw[JA hM]
 exact vx hM J
variable {p:DS} {l:List DS}
def mZ (M:Int) (vs:List (Int × Int)) (l:List DS) (i:Nat):Int:=pI (zI l (l10 M l.length) l.length) (mG vs) (l.length+1) i
theorem Ns (hM:Mo M) (hv:Fp M vs) (he:kg p l=vs.map (mp M)):(Aa p l 10 3).length=l.length+1/\∀i,i < l.length+1->vl (Aa p l 10 3) i=some (mq M (mZ M vs l i)):=by
 have hvl:vs.length=l.length+1:=by rw[<-qU p l,he,length_map]
 have hsl:=ix ((l.length+1:Nat):Int) (replicate l.length 10) (l.length+1)
 have hzl:=uJ l (gU ((l.length+1:Nat):Int) (replicate l.length 10) (l.length+1)) l.length
 have h0:∀k,0<=l10 M l.length k:=fun k=>(oX hM _ k).1
 have hz:=WR (M:=M) (l:=l) (L:=l10 M l.length) (w:=gU ((l.length+1:Nat):Int) (replicate l.length 10) (l.length+1)) hsl (fun k hk=>UF hM _ J) l.length (le_refl _)
 rw[W7 (V2 _),he]
 generalize zS l (gU ((l.length+1:Nat):Int) (replicate l.length 10) (l.length+1)) l.length=w at *
 have hwl:w.length=l.length+1:=J
 have key:∀i,i < l.length+1->vl (gk (vs.map (mp M)) 3 w) i=some (mq M (mZ M vs l i)):=fun i hi=>by
  have:=abq (l:=vs.map (mp M)) (w:=w) (L:=zI l (l10 M l.length) l.length) (G:=mG vs) hM J (fun i hi=>hz i J) (fun i hi=>Ip hM hv J) (fun i=>by have:=Cr (l:=l) h0 l.length i; have:=oX hM l.length i; have:=hM.1; omega) (fun i=>Kv hM hv i) (i:=i) J
  rw[hwl] at this
  exact this
 have hlen:(gk (vs.map (mp M)) 3 w).length=l.length+1:=by unfold gk; rw[oS,kq,hwl]
 have hgood:iK (gk (vs.map (mp M)) 3 w)=true:=by
  unfold iK
  rw[not_eq_true',any_eq_false]
  intro r hr
  obtain⟨i,hi,rfl⟩:=getElem_of_mem hr
  have h2:=key i J
  unfold vl at h2
  rw[aM hi] at h2
  unfold br
  rw[h2]; simp
 have e:pS (vs.map (mp M)) 3 w=gk (vs.map (mp M)) 3 w:=by
  unfold pS
  rw[hgood]; rfl
 rw[e]
 exact⟨hlen,key⟩
theorem BT (hM:Mo M) (hv:Fp M vs) {i:Nat} (hi:i < l.length+1):0<=mZ M vs l i/\mZ M vs l i<=zI l (l10 M l.length) l.length i/\zI l (l10 M l.length) l.length i<=l10 M l.length i:=by
 have h0:∀k,0<=l10 M l.length k:=fun k=>(oX hM _ k).1
 exact⟨WV (fun i=>(Cr h0 _ i).1) (fun i=>(Kv hM hv i).1) i,Wl hi,(Cr h0 _ i).2⟩
theorem Zh (hM:Mo M) (hv:Fp M vs) {j:Nat} (hj:j < l.length) (ht:(nth (t:=bu) l j).1 ≠ 0):mZ M vs l j=0/\mZ M vs l (j+1)=0:=by
 obtain⟨z1,z2⟩:=NQ (l:=l) (L:=l10 M l.length) (fun k=>(oX hM _ k).1) l.length j hj ht
 obtain⟨a1,a2,_⟩:=BT hM hv (vs:=vs) (l:=l) (i:=j) J
 obtain⟨b1,b2,_⟩:=BT hM hv (vs:=vs) (l:=l) (i:=j+1) J
 omega
theorem aag (hM:Mo M) (hv:Fp M vs) (he:kg p l=vs.map (mp M)) (hl:l.length<=900000000):Fn prog 32 [⟨.slice ax,kg p l⟩,⟨aq,replicate l.length 10⟩,⟨.int,3⟩,⟨.slice au,Aa p l 10 3⟩] false [⟨.bool,true⟩]:=by
 obtain⟨h1,h2⟩:=Ns hM hv he
 have hvl:vs.length=l.length+1:=by rw[<-qU p l,he,length_map]
 have hpl:=qU p l
 have hM1:=hM.1
 have:=JX (kg p l) (replicate l.length 10) 3 (Aa p l 10 3) (by rw[hpl]; exact V2 _) ae J (fun i hi=>by
  have h3:=h2 i J
  unfold vl at h3
  unfold br
  rw[h3]; rfl) (fun i hi=>by rw[he,Ip hM hv J]; rfl) J
 rw[jr] at this
 ·exact this
 ·intro i hi
  rw[hpl] at hi
  obtain⟨a1,a2,a3⟩:=BT hM hv (vs:=vs) (l:=l) hi
  unfold Fw
  rw[h2 i hi,Qw hM,hpl,JA hM,PZ hM]
  refine⟨a1,J,fun hp=>?_⟩
  obtain⟨b1,b2,b3⟩:=BT hM hv (vs:=vs) (l:=l) (i:=i - 1) J
  have c1:=oX hM l.length i
  have c2:=oX hM l.length (i - 1)
  have d1:=ab8 (L:=zI l (l10 M l.length) l.length) (fun k=>(Kv hM hv k).1) (n:=l.length+1) (i:=i - 1) J
  have d2:=XE (L:=zI l (l10 M l.length) l.length) (G:=mG vs) (n:=l.length+1) (i:=i - 1) J
  rw[show i - 1+1=i from J] at d1 d2
  change mZ M vs l i<=mZ M vs l (i - 1)+mG vs (i - 1) at d1
  change mZ M vs l (i - 1)<=mZ M vs l i+mG vs (i - 1) at d2
  rw[h2 (i - 1) J,Eg hM J,EC hM,he,Ip hM hv J,PZ hM]
  refine⟨rfl,?_⟩
  omega
end
def fD (k:dZ):List DR:=[k.1,k.2.1,k.2.2.1,k.2.2.2.1,k.2.2.2.2.1,k.2.2.2.2.2]
theorem Q6 (x y:Option Rat):-1<=bG x y/\bG x y<=1:=by
 unfold bG
 split
 ·unfold eI
  split
  ·omega
  ·split<;>omega
 ·omega
def um (k:dZ):Bool:=!((fD k).any fun r=>!br r) && decide (bG (aw k.1) (aw k.2.1) < 0) && (decide (bG (aw k.2.2.1) (aw k.2.2.2.2.1)<=0) && decide (bG (aw k.2.2.2.1) (aw k.2.2.2.2.2)<=0) && decide (bG (aw k.2.2.1) (aw k.2.2.2.2.1)+bG (aw k.2.2.2.1) (aw k.2.2.2.2.2) < 0))
theorem ux (k:dZ):Fn prog 324 [⟨bf,k⟩] false [⟨.bool,um k⟩]:=by
 have c1:=v8 (fD k)
 have r2:=Q6 (aw k.2.2.1) (aw k.2.2.2.2.1)
 have r3:=Q6 (aw k.2.2.2.1) (aw k.2.2.2.2.2)
 cases h:(fD k).any fun r=>!br r
 rotate_left
 ·unfold um
  rw[h] at c1 ⊢
  unfold fD at c1
  clear r2 r3 h
  obtain⟨k1,k2,k3,k4,k5,k6⟩:=k
  dsimp only at *
  refine fe func324 ntmps324 results324 fun hwf=>?_
  refine Sz ?_
  refine cw c1 ?_
  all_goals exact Fz
 have ok:=any_eq_false.1 h
 have ok:∀r ∈ fD k,br r=true:=fun r hr=>by simpa using ok r hr
 have c2:=bR (aw k.1) (aw k.2.1) (aI _) (aI _)
 have c3:=bR (aw k.2.2.1) (aw k.2.2.2.2.1) (aI _) (aI _)
 have c4:=bR (aw k.2.2.2.1) (aw k.2.2.2.2.2) (aI _) (aI _)
 rw[bg (ok k.1 (by simp[fD])),bg (ok k.2.1 (by simp[fD]))] at c2
 rw[bg (ok k.2.2.1 (by simp[fD])),bg (ok k.2.2.2.2.1 (by simp[fD]))] at c3
 rw[bg (ok k.2.2.2.1 (by simp[fD])),bg (ok k.2.2.2.2.2 (by simp[fD]))] at c4
 unfold um
 rw[h] at c1 ⊢
 unfold fD at c1
 clear h ok
 obtain⟨k1,k2,k3,k4,k5,k6⟩:=k
 dsimp only at *
 generalize bG (aw k1) (aw k2)=n1 at *
 generalize bG (aw k3) (aw k5)=n2 at *
 generalize bG (aw k4) (aw k6)=n3 at *
 refine fe func324 ntmps324 results324 fun hwf=>?_
 refine Cz c1 ?_
 refine cw c2 ?_
 refine Nz ?_
 refine ao ?_ ?_<;>intro hA
 ·rw[ak J]
  all_goals exact Fz
 ·rw[aj (by omega:n1 < 0)]
  cases g2:decide (n2<=0)
  ·refine Cz c3 ?_
   refine cw c4 ?_
   refine Sz ?_
   exact Gz g2
  cases g3:decide (n3<=0)
  ·refine Cz c3 ?_
   refine cw c4 ?_
   refine Sz ?_
   exact CW g2 g3
  ·refine Cz c3 ?_
   refine cw c4 ?_
   refine Sz ?_
   exact CW g2 g3
def WU (k:dZ) (p:DP):Bool:=decide (0 < bG (aw p.1) (aw k.1)) && decide (bG (aw p.1) (aw k.2.1) < 0) && (decide (0 < Fy (k.1,k.2.2.1) (k.2.1,k.2.2.2.1) p) && decide (Fy (k.1,k.2.2.2.2.1) (k.2.1,k.2.2.2.2.2) p < 0))
theorem uE {a b:DR} (h1:br a=true) (h2:br b=true):bj (a,b)=true:=by
 show (br a && br b)=true
 rw[h1,h2]; rfl
theorem QI (k:dZ) (p:DP) (ok:∀r ∈ fD k,br r=true) (hp:bj p=true):Fn prog 361 [⟨bf,k⟩,⟨ax,p⟩] false [⟨.bool,WU k p⟩]:=by
 obtain⟨q1,q2⟩:=Bool.and_eq_true_iff.1 (show (br p.1 && br p.2)=true from hp)
 have k1:=ok k.1 (by simp[fD])
 have k2:=ok k.2.1 (by simp[fD])
 have c1:=bR (aw p.1) (aw k.1) (aI _) (aI _)
 have c2:=bR (aw p.1) (aw k.2.1) (aI _) (aI _)
 have c3:=Dt (k.1,k.2.2.1) (k.2.1,k.2.2.2.1) p (uE k1 (ok _ (by simp[fD]))) (uE k2 (ok _ (by simp[fD]))) hp
 have c4:=Dt (k.1,k.2.2.2.2.1) (k.2.1,k.2.2.2.2.2) p (uE k1 (ok _ (by simp[fD]))) (uE k2 (ok _ (by simp[fD]))) hp
 rw[bg k1,bg q1] at c1
 rw[bg k2,bg q1] at c2
 unfold WU
 clear ok k1 k2
 obtain⟨k1,k2,k3,k4,k5,k6⟩:=k
 obtain⟨p1,p2⟩:=p
 dsimp only at *
 generalize bG (aw p1) (aw k1)=n1 at *
 generalize bG (aw p1) (aw k2)=n2 at *
 generalize Fy (k1,k3) (k2,k4) (p1,p2)=n3 at *
 generalize Fy (k1,k5) (k2,k6) (p1,p2)=n4 at *
 cases g1:decide (n1<=0)
 rotate_left
 ·rw[ak (by have:=of_decide_eq_true g1; omega)]
  refine fe func361 ntmps361 results361 fun hwf=>?_
  refine Bz c1 ?_
  exact Gz g1
 rw[aj (by have:=of_decide_eq_false g1; omega:0 < n1)]
 cases g2:decide (0<=n2)
 rotate_left
 ·rw[ak (by have:=of_decide_eq_true g2; omega)]
  refine fe func361 ntmps361 results361 fun hwf=>?_
  refine Bz c1 ?_
  refine Tz g1 ?_
  refine cw c2 ?_
  refine Nz ?_
  exact Gz g2
 rw[aj (by have:=of_decide_eq_false g2; omega:n2 < 0)]
 cases g3:decide (0 < n3)
 ·refine fe func361 ntmps361 results361 fun hwf=>?_
  refine Bz c1 ?_
  refine Tz g1 ?_
  refine cw c2 ?_
  refine Nz ?_
  refine Tz g2 ?_
  refine cw c3 ?_
  refine Nz ?_
  exact Gz g3
 ·refine fe func361 ntmps361 results361 fun hwf=>?_
  refine Bz c1 ?_
  refine Tz g1 ?_
  refine cw c2 ?_
  refine Nz ?_
  refine Tz g2 ?_
  refine cw c3 ?_
  refine Nz ?_
  refine Tz g3 ?_
  refine cw c4 ?_
  all_goals exact Fz
theorem aak {k:dZ} (h:um k=true):∀r ∈ fD k,br r=true:=by
 unfold um at h
 simp only[Bool.and_eq_true,not_eq_true'] at h
 intro r hr
 simpa using any_eq_false.1 h.1.1 r hr
def Ni (p:DP) (k:dZ):Bool:=um k && WU k p
theorem QO (k:dZ) (p:DP) (hp:bj p=true):Fn prog 317 [⟨bf,k⟩,⟨ax,p⟩] false [⟨.bool,Ni p k⟩]:=by
 have c1:=ux k
 have c2:=pW p
 rw[hp] at c2
 unfold Ni
 cases h:um k
 ·rw[h] at c1
  obtain⟨k1,k2,k3,k4,k5,k6⟩:=k
  obtain⟨p1,p2⟩:=p
  refine fe func317 ntmps317 results317 fun hwf=>?_
  refine Sz ?_
  refine cw c1 ?_
  all_goals exact Fz
 ·have c3:=QI k p (aak h) hp
  rw[h] at c1
  generalize WU k p=z at *
  clear h
  obtain⟨k1,k2,k3,k4,k5,k6⟩:=k
  obtain⟨p1,p2⟩:=p
  refine fe func317 ntmps317 results317 fun hwf=>?_
  refine Cz c1 ?_
  refine cw c2 ?_
  refine Sz ?_
  refine cw c3 ?_
  all_goals exact Fz
def kA (w:fU):List DR:=[w.1,w.2.1,w.2.2]
def tY (w:fU):Bool:=!((kA w).any fun r=>!br r) && decide (bG (aw w.2.1) (aw w.2.2) < 0)
theorem ue (w:fU):Fn prog 329 [⟨bz,w⟩] false [⟨.bool,tY w⟩]:=by
 have c1:=v8 (kA w)
 cases h:(kA w).any fun r=>!br r
 rotate_left
 ·unfold tY
  rw[h] at c1 ⊢
  unfold kA at c1
  clear h
  obtain⟨k1,k2,k3⟩:=w
  dsimp only at *
  refine fe func329 ntmps329 results329 fun hwf=>?_
  refine Sz ?_
  refine cw c1 ?_
  all_goals exact Fz
 have ok:=any_eq_false.1 h
 have ok:∀r ∈ kA w,br r=true:=fun r hr=>by simpa using ok r hr
 have c2:=bR (aw w.2.1) (aw w.2.2) (aI _) (aI _)
 rw[bg (ok w.2.1 (by simp[kA])),bg (ok w.2.2 (by simp[kA]))] at c2
 unfold tY
 rw[h] at c1 ⊢
 unfold kA at c1
 clear h ok
 obtain⟨k1,k2,k3⟩:=w
 dsimp only at *
 generalize bG (aw k2) (aw k3)=n1 at *
 refine fe func329 ntmps329 results329 fun hwf=>?_
 refine Cz c1 ?_
 refine cw c2 ?_
 all_goals exact Fz
def W3 (w:fU) (p:DP):Bool:=l6 p.1 w.1 && decide (0 < bG (aw p.2) (aw w.2.1)) && decide (bG (aw p.2) (aw w.2.2) < 0)
theorem Qc (w:fU) (p:DP) (ok:∀r ∈ kA w,br r=true) (hp:bj p=true):Fn prog 362 [⟨bz,w⟩,⟨ax,p⟩] false [⟨.bool,W3 w p⟩]:=by
 obtain⟨q1,q2⟩:=Bool.and_eq_true_iff.1 (show (br p.1 && br p.2)=true from hp)
 have c1:=ph p.1 w.1
 have c2:=bR (aw p.2) (aw w.2.1) (aI _) (aI _)
 have c3:=bR (aw p.2) (aw w.2.2) (aI _) (aI _)
 rw[bg q2,bg (ok w.2.1 (by simp[kA]))] at c2
 rw[bg q2,bg (ok w.2.2 (by simp[kA]))] at c3
 unfold W3
 clear ok
 obtain⟨k1,k2,k3⟩:=w
 obtain⟨p1,p2⟩:=p
 dsimp only at *
 generalize bG (aw p2) (aw k2)=n1 at *
 generalize bG (aw p2) (aw k3)=n2 at *
 cases g0:l6 p1 k1<;>rw[g0] at c1
 ·refine fe func362 ntmps362 results362 fun hwf=>?_
  refine Sz ?_
  refine cw c1 ?_
  all_goals exact Fz
 cases g1:decide (0 < n1)
 ·refine fe func362 ntmps362 results362 fun hwf=>?_
  refine Cz c1 ?_
  refine cw c2 ?_
  refine Nz ?_
  exact Gz g1
 ·refine fe func362 ntmps362 results362 fun hwf=>?_
  refine Cz c1 ?_
  refine cw c2 ?_
  refine Nz ?_
  refine Tz g1 ?_
  refine cw c3 ?_
  all_goals exact Fz
theorem ZE {w:fU} (h:tY w=true):∀r ∈ kA w,br r=true:=by
 unfold tY at h
 simp only[Bool.and_eq_true,not_eq_true'] at h
 intro r hr
 simpa using any_eq_false.1 h.1 r hr
def J8 (p:DP) (w:fU):Bool:=tY w && W3 w p
theorem SC (w:fU) (p:DP) (hp:bj p=true):Fn prog 320 [⟨bz,w⟩,⟨ax,p⟩] false [⟨.bool,J8 p w⟩]:=by
 have c1:=ue w
 have c2:=pW p
 rw[hp] at c2
 unfold J8
 cases h:tY w
 ·rw[h] at c1
  obtain⟨k1,k2,k3⟩:=w
  obtain⟨p1,p2⟩:=p
  refine fe func320 ntmps320 results320 fun hwf=>?_
  refine Sz ?_
  refine cw c1 ?_
  all_goals exact Fz
 ·have c3:=Qc w p (ZE h) hp
  rw[h] at c1
  generalize W3 w p=z at *
  clear h
  obtain⟨k1,k2,k3⟩:=w
  obtain⟨p1,p2⟩:=p
  refine fe func320 ntmps320 results320 fun hwf=>?_
  refine Cz c1 ?_
  refine cw c2 ?_
  refine Sz ?_
  refine cw c3 ?_
  all_goals exact Fz
end DW

namespace DW
open Go.RowKit Go.Shelf
def Sa:Go.Shelf.Ren:=⟨fun|0=>0|1=>1|2=>2|107=>62|108=>140|111=>97|122=>292|125=>143|128=>221|129=>222|189=>67|212=>158|215=>290|216=>218|257=>142|263=>236|264=>237|294=>212|295=>213|296=>214|297=>215|298=>216|299=>217|300=>219|301=>220|328=>285|329=>286|330=>287|331=>288|332=>289|343=>332|347=>388|348=>389|349=>390|350=>391|351=>392|352=>393|353=>394|354=>395|355=>396|356=>397|357=>398|358=>399|359=>400|360=>401|361=>402|366=>403|n=>n,fun|0=>0|1=>1|2=>2|3=>3|4=>4|5=>5|6=>6|7=>7|8=>8|9=>9|10=>10|11=>11|12=>12|13=>13|14=>14|15=>15|16=>16|17=>17|18=>18|19=>19|20=>20|21=>21|28=>31|29=>114|30=>190|34=>146|35=>121|37=>22|43=>201|45=>123|46=>194|47=>193|51=>267|52=>266|53=>269|54=>268|80=>358|81=>364|109=>208|110=>209|111=>141|112=>262|114=>116|127=>368|131=>264|134=>192|146=>278|147=>279|148=>280|149=>281|164=>373|181=>257|182=>258|183=>259|184=>260|185=>261|186=>263|187=>265|218=>306|219=>307|220=>308|221=>309|222=>310|223=>311|228=>329|229=>125|230=>330|238=>359|239=>360|240=>361|241=>362|242=>363|243=>365|244=>366|245=>367|246=>369|247=>370|248=>371|249=>372|n=>n,fun n=>n⟩
theorem N9:Lays.n189 prog Sa:={
 mixed:=by kernel_rfl
 f125:=func143.trans (congrArg some ai)
 f128:=func221.trans (congrArg some ai)
 f129:=func222.trans (congrArg some ai)
 f189:=func67.trans (congrArg some ai)
 f215:=func290.trans (congrArg some ai)
 f216:=func218.trans (congrArg some ai)
 f257:=func142.trans (congrArg some ai)
 f294:=func212.trans (congrArg some ai)
 f295:=func213.trans (congrArg some ai)
 f296:=func214.trans (congrArg some ai)
 f297:=func215.trans (congrArg some ai)
 f298:=func216.trans (congrArg some ai)
 f299:=func217.trans (congrArg some ai)
 f300:=func219.trans (congrArg some ai)
 f301:=func220.trans (congrArg some ai)
 f328:=func285.trans (congrArg some ai)
 f329:=func286.trans (congrArg some ai)
 f330:=func287.trans (congrArg some ai)
 f331:=func288.trans (congrArg some ai)
 f332:=func289.trans (congrArg some ai)
 f343:=func332.trans (congrArg some ai)
 t0:=Tryz.underlying0
 a0:=Tryz.isAgg0
 z0:=Tryz.sizeOf0
 v0:=Tryz.zeroValue0
 t3:=Tryz.underlying3
 a3:=Tryz.isAgg3
 z3:=Tryz.sizeOf3
 v3:=Tryz.zeroValue3
 t4:=Tryz.underlying4
 a4:=Tryz.isAgg4
 z4:=Tryz.sizeOf4
 v4:=Tryz.zeroValue4
 t5:=Tryz.underlying5
 a5:=Tryz.isAgg5
 z5:=Tryz.sizeOf5
 v5:=Tryz.zeroValue5
 t9:=Tryz.underlying9
 a9:=Tryz.isAgg9
 z9:=Tryz.sizeOf9
 v9:=Tryz.zeroValue9
 t28:=Tryz.underlying31
 a28:=Tryz.isAgg31
 z28:=Tryz.sizeOf31
 v28:=Tryz.zeroValue31
 t46:=Tryz.underlying194
 a46:=Tryz.isAgg194
 z46:=Tryz.sizeOf194
 v46:=Tryz.zeroValue194
 t51:=Tryz.underlying267
 a51:=Tryz.isAgg267
 z51:=Tryz.sizeOf267
 v51:=Tryz.zeroValue267
 t53:=Tryz.underlying269
 a53:=Tryz.isAgg269
 z53:=Tryz.sizeOf269
 v53:=Tryz.zeroValue269
 t131:=Tryz.underlying264
 a131:=Tryz.isAgg264
 z131:=Tryz.sizeOf264
 v131:=Tryz.zeroValue264
 t182:=Tryz.underlying258
 a182:=Tryz.isAgg258
 z182:=Tryz.sizeOf258
 v182:=Tryz.zeroValue258
 t183:=Tryz.underlying259
 a183:=Tryz.isAgg259
 z183:=Tryz.sizeOf259
 v183:=Tryz.zeroValue259
 t218:=Tryz.underlying306
 a218:=Tryz.isAgg306
 z218:=Tryz.sizeOf306
 v218:=Tryz.zeroValue306
 t222:=Tryz.underlying310
 a222:=Tryz.isAgg310
 z222:=Tryz.sizeOf310
 v222:=Tryz.zeroValue310
 t228:=Tryz.underlying329
 a228:=Tryz.isAgg329
 z228:=Tryz.sizeOf329
 v228:=Tryz.zeroValue329
 t229:=Tryz.underlying125
 a229:=Tryz.isAgg125
 z229:=Tryz.sizeOf125
 v229:=Tryz.zeroValue125 }
def S2:Go.Shelf.Ren:=⟨fun|0=>0|1=>1|2=>2|15=>70|20=>68|31=>218|37=>290|40=>388|41=>389|42=>390|43=>391|44=>392|45=>393|46=>394|47=>395|48=>396|49=>397|50=>398|51=>399|52=>400|53=>401|54=>402|55=>403|n=>n,fun|0=>0|1=>1|2=>2|3=>3|4=>4|5=>5|6=>6|7=>7|8=>8|9=>9|10=>10|11=>11|12=>12|13=>13|14=>14|15=>15|16=>16|17=>17|18=>18|19=>19|20=>20|21=>21|22=>31|23=>122|33=>264|36=>146|40=>194|41=>262|42=>141|45=>121|46=>358|47=>359|48=>360|49=>361|50=>362|51=>363|52=>364|53=>267|54=>365|55=>366|56=>367|57=>368|58=>369|59=>370|60=>371|61=>372|62=>373|n=>n,fun n=>n⟩
theorem OE:Lays2.n20 prog S2:={
 mixed:=by kernel_rfl
 f20:=func68.trans (congrArg some ai)
 t0:=Tryz.underlying0
 a0:=Tryz.isAgg0
 z0:=Tryz.sizeOf0
 v0:=Tryz.zeroValue0
 t3:=Tryz.underlying3
 a3:=Tryz.isAgg3
 z3:=Tryz.sizeOf3
 v3:=Tryz.zeroValue3
 t4:=Tryz.underlying4
 a4:=Tryz.isAgg4
 z4:=Tryz.sizeOf4
 v4:=Tryz.zeroValue4
 t22:=Tryz.underlying31
 a22:=Tryz.isAgg31
 z22:=Tryz.sizeOf31
 v22:=Tryz.zeroValue31
 i3:=by kernel_rfl }
end DW

namespace DW
open Go.RowKit Go.Sort
theorem NK {w:World} {cs:List Value} {x:Int} {f:List Nat} (h:Ty.int.rp.rep w cs x f):cs=[.int .i64 x]/\f=[]/\bU x:=h
theorem yA {w:World} {x:Int} (h:bU x):Ty.int.rp.rep w [.int .i64 x] x []:=⟨rfl,rfl,h⟩
theorem L7 {base:Nat} {w:World} {e:TypeId} {v:Value} {l:List Int} {fps:List (List Nat)} (h:bh Ty.int.rp base w e v l fps) (h0:0 < l.length) :
  ∃g cap cur,v=.slice (some ⟨g,0,none⟩) l.length cap/\base<=g/\w.heap[g]? = some (.cells cur e (0,0))/\l.length<=cap/\cap<=maxLen/\cur.size=cap/\Go.Sort.Holds (Value.int .i64) w g 0 l.toArray/\∀x ∈ l,bU x:=by
 obtain⟨xs,⟨hxl,hor⟩,hfl,he⟩:=h
 rcases hor with ⟨_,hn⟩|⟨g,cap,cur,hv,hb,hg,hnc,hcm,hcs,htk⟩
 ·omega
 rw[show Ty.int.rp.size=1 from rfl,Nat.mul_one] at hxl hcs htk
 refine⟨g,cap,cur,hv,hb,hg,hnc,hcm,hcs,fun j hj=>?_,fun x hx=>?_⟩
 ·have hj2:j < l.length:=by simpa using hj
  refine⟨?_,frozen_of_row w g _ cur e hg⟩
  rw[Nat.zero_add,cell_of_row w g j cur e (0,0) hg,<-Array.getElem?_toList]
  obtain⟨f,cs,_,h2,h3⟩:=he j (l[j]'hj2) (getElem?_eq_getElem _)
  obtain⟨rfl,_⟩:=NK h2
  have:=h3 0 _ rfl
  rw[show Ty.int.rp.size=1 from rfl,show j * 1+0=j from J,<-htk,getElem?_take,if_pos hj2] at this
  rw[this,getElem!_pos l.toArray j (by simpa using hj2)]
  rfl
 ·obtain⟨i,hi,rfl⟩:=getElem_of_mem hx
  obtain⟨f,cs,_,h2,_⟩:=he i l[i] (getElem?_eq_getElem hi)
  exact (NK h2).2.2
theorem Vu {base:Nat} {w w':World} {e:TypeId} {g cap n:Nat} {cur:Array Value} {os:Array Obj} {d:List Int} (hb:base<=g) (hg:w.heap[g]? = some (.cells cur e (0,0))) (hcs:cur.size=cap) (hcm:cap<=maxLen) (hd:d.length<=cap) (hI:∀x ∈ d,bU x) (m:Nat) (hm:m<=d.length)
  (hw:w'=grow (putRow (Value.int .i64) (Sort.ahead w n) g 0 d.toArray) os) :
  bh Ty.int.rp base w' e (.slice (some ⟨g,0,none⟩) m cap) (d.take m) (replicate m [])/\w.grownBy w' (some g):=by
 have hgs:g < w.heap.size:=(Array.getElem?_eq_some_iff.1 hg).1
 have hg':w'.heap[g]? = some (.cells (Go.Sort.putCells (Value.int .i64) 0 d.toArray cur) e (0,0)):=by
  subst hw
  unfold putRow mapBlock grow
  simp only[heap_ahead]
  rw[Array.getElem?_append_left (by rw[Array.size_modify]; exact hgs),Array.getElem?_modify,if_pos rfl,hg]
  rfl
 have hlt:(d.take m).length=m:=by rw[length_take]; omega
 have hcell:∀t (ht:t < d.length),(Go.Sort.putCells (Value.int .i64) 0 d.toArray cur).toList[t]? = some (.int .i64 (d[t]'ht)):=by
  intro t ht
  rw[Array.getElem?_toList]
  unfold Go.Sort.putCells
  rw[Array.getElem?_mapIdx,Array.getElem?_eq_getElem (by omega:t < cur.size),Option.map_some,if_pos ⟨zero_le _,by simpa using ht⟩,getElem!_pos d.toArray (t - 0) (by simpa using ht)]
  rfl
 have hps:(Go.Sort.putCells (Value.int .i64) 0 d.toArray cur).size=cap:=by unfold Go.Sort.putCells; rw[Array.size_mapIdx,hcs]
 refine⟨⟨(Go.Sort.putCells (Value.int .i64) 0 d.toArray cur).toList.take m,⟨?_,.inr ⟨g,cap,_,?_,hb,hg',?_,hcm,?_,?_⟩⟩,?_,fun i x hx=>?_⟩,?_⟩
 ·rw[hlt,show Ty.int.rp.size=1 from rfl,length_take,length_toList,hps]; omega
 ·rw[hlt]
 ·rw[hlt]; omega
 ·rw[hps,show Ty.int.rp.size=1 from rfl,Nat.mul_one]
 ·rw[hlt,show Ty.int.rp.size=1 from rfl,Nat.mul_one]
 ·rw[hlt,length_replicate]
 ·have hi:i < m:=by have:=(List.getElem?_eq_some_iff.1 hx).1; omega
  rw[getElem?_take,if_pos hi] at hx
  obtain⟨hid,hx⟩:=List.getElem?_eq_some_iff.1 hx
  subst hx
  refine⟨[],[.int .i64 d[i]],by simp[hi],yA (hI _ (getElem_mem hid)),fun j v hj=>?_⟩
  have hj2:j=0:=by have:=(List.getElem?_eq_some_iff.1 hj).1; simp at this; omega
  subst hj2
  rw[show Ty.int.rp.size=1 from rfl,show i * 1+0=i from J,getElem?_take,if_pos hi,hcell i hid]
  exact hj
 ·subst hw
  refine⟨rfl,rfl,rfl,?_,fun k hk hne=>?_⟩
  ·rw[size_grow,size_putRow]
   show w.heap.size<=w.heap.size+_
   omega
  ·have hkg:g ≠ k:=fun h=>hne (by rw[h])
   unfold putRow mapBlock grow
   simp only[heap_ahead]
   rw[Array.getElem?_append_left (by rw[Array.size_modify]; exact hk),Array.getElem?_modify,if_neg hkg]
theorem kl.ofI {P:Program} {f:FuncId} {xs:List lC} {e:TypeId} {l l':List Int} (he:∀vs w,(callFunc f vs).run P w=.ok (.enter f vs) w) (ret:Bool) (h00:l.length=0->l'.length=0)
  (d0:∀(p:Option Addr) (cap:Nat) (w:World),Calls P f (.slice p 0 cap :: xs.map lC.val).toArray w fun en w'=>en=.returned (if ret then .slice p 0 cap else .tuple #[])/\w'=w)
  (d:(∀x ∈ l,bU x)->∀(w:World) (g cap:Nat),g < w.heap.size->l.length<=cap->cap<=maxLen->Go.Sort.Holds (Value.int .i64) w g 0 l.toArray →
   Calls P f (.slice (some ⟨g,0,none⟩) l.length cap :: xs.map lC.val).toArray w fun en w'=>∃(dd:List Int) (n:Nat) (os:Array Obj),en=.returned (if ret then .slice (some ⟨g,0,none⟩) l'.length cap else .tuple #[])/\(ret=false->l'.length=l.length)/\dd.length=l.length/\(∀x ∈ dd,x ∈ l\/x=0)/\l'=dd.take l'.length/\l'.length<=dd.length/\w'=grow (putRow (Value.int .i64) (Sort.ahead w n) g 0 dd.toArray) os):kl P f xs e .int l l' ret:=by
 refine⟨he,fun w base v fps _ _ _ hone hgr=>?_⟩
 rcases Nat.eq_zero_or_pos l.length with h0|h0
 ·have hl:l=[]:=List.eq_nil_of_length_eq_zero h0
  have hl':l'=[]:=List.eq_nil_of_length_eq_zero (h00 h0)
  subst hl; subst hl'
  obtain⟨p,cap,rfl⟩:=qC hgr
  refine (d0 p cap w).mono ?_
  rintro en w' ⟨rfl,rfl⟩
  exact⟨_,fps,rfl,fun _=>rfl,hone,rfl,hgr,⟨rfl,rfl,rfl,le_refl _,fun _ _ _=>rfl⟩,fun b hb=>hb⟩
 obtain⟨g,cap,cur,rfl,hb,hg,hnc,hcm,hcs,hH,hI⟩:=L7 hgr h0
 refine (d hI w g cap (Array.getElem?_eq_some_iff.1 hg).1 hnc hcm hH).mono ?_
 rintro en w' ⟨dd,n,os,h1,h2,h3,h4,h5,h6,h7⟩
 have hI2:∀x ∈ dd,bU x:=fun x hx=>by
  rcases h4 x hx with h|rfl
  ·exact hI x h
  ·show bU 0; unfold bU; omega
 obtain⟨k1,k2⟩:=Vu (base:=base) hb hg hcs hcm J hI2 l'.length h6 h7
 rw[<-h5] at k1
 exact⟨.slice (some ⟨g,0,none⟩) l'.length cap,_,h1,fun hr=>by rw[h2 hr],rfl,rfl,k1,k2,fun b hb=>by
  obtain⟨f,hf,hb⟩:=List.mem_flatten.1 hb
  rw[(mem_replicate.1 hf).2] at hb; cases hb⟩
def mS (x y:Int):Bool:=decide (x<=y)
theorem ry (l:List Int) (hn:l.length<=1000000000):kl prog 67 [] 3 .int l (l.mergeSort mS) false:=by
 refine kl.ofI (enters_of func67 ai rfl) false (fun h=>by rw[length_mergeSort]; exact h) (fun p cap w=>Any.slices_Sort_int_none N9 p cap w) fun hI w g cap hg hc hcm hH=>?_
 refine Calls.mono (Any.slices_Sort_int N9 g 0 cap l w hH hg J) ?_
 rintro en w' ⟨rfl,n,os,rfl⟩
 exact⟨l.mergeSort mS,n,os,rfl,fun _=>length_mergeSort _,length_mergeSort _,fun x hx=>.inl ((List.mergeSort_perm _ _).mem_iff.1 hx),(take_length ..).symm,le_refl _,rfl⟩
theorem Bm (l:List Int):(Lib.compact l).length<=l.length:=by
 unfold Lib.compact Lib.compactUpTo
 rw[length_map]
 exact le_trans (List.length_filter_le _ _) (by rw[List.length_range]; exact le_refl _)
theorem Iw {l:List Int} {x:Int} (h:x ∈ Lib.compact l):x ∈ l:=by
 unfold Lib.compact Lib.compactUpTo at h
 obtain⟨j,hj,rfl⟩:=mem_map.1 h
 have:=List.mem_range.1 (List.mem_filter.1 hj).1
 rw[getElem!_pos l.toArray j (by simpa using this)]
 simp
theorem pe (l:List Int) (hn:l.length<=1000000000):kl prog 68 [] 3 .int l (Lib.compact l) true:=by
 have hl:=Bm l
 refine kl.ofI (enters_of func68 ai rfl) true (fun h=>J) (fun p cap w=>Any.slices_Compact_int_empty OE p cap w) fun hI w g cap hg hc hcm hH=>?_
 refine Calls.mono (Any.slices_Compact_int OE g 0 cap l w hH J hc) ?_
 rintro en w' ⟨rfl,n,rfl⟩
 refine⟨Lib.compact l++replicate (l.length - (Lib.compact l).length) 0,n,#[],rfl,(fun h=>by cases h),by rw[length_append,length_replicate]; omega,fun x hx=>?_,by rw[List.take_left],by rw[length_append]; omega,?_⟩
 ·rcases mem_append.1 hx with h|h
  ·exact .inl (Iw h)
  ·exact .inr (mem_replicate.1 h).2
 ·rw[grow_empty]
theorem Hz:Fn prog 67 [⟨aq,[]⟩] false []:=by
 refine⟨enters_of func67 ai rfl,fun w vs S _ ha=>?_⟩
 match vs,ha with
 | [v],⟨⟨fp,⟨cs,hp,hr⟩,hs⟩,_⟩ =>
  rcases hp with ⟨h,_⟩|⟨_,rfl⟩
  ·cases h
  obtain⟨ad,cc,rfl,_⟩:=oU (t:=.int) hr
  exact (Any.slices_Sort_int_none N9 ad cc w).mono fun e w' ⟨h1,h2⟩=>by
   subst h1; subst h2
   exact⟨Below.refl _ _,.tuple #[],rfl,[],rfl,trivial⟩
theorem Lc:Fn prog 68 [⟨aq,[]⟩] false [⟨aq,[]⟩]:=by
 refine⟨enters_of func68 ai rfl,fun w vs S _ ha=>?_⟩
 match vs,ha with
 | [v],⟨⟨fp,⟨cs,hp,hr⟩,hs⟩,_⟩ =>
  rcases hp with ⟨h,_⟩|⟨_,rfl⟩
  ·cases h
  obtain⟨ad,cc,rfl,_⟩:=oU (t:=.int) hr
  exact (Any.slices_Compact_int_empty OE ad cc w).mono fun e w' ⟨h1,h2⟩=>by
   subst h1; subst h2
   exact⟨Below.refl _ _,_,rfl,fp,⟨_,.inr ⟨rfl,rfl⟩,hr⟩,(fun h=>by cases h),fun b hb=>.inl (hs b hb)⟩
theorem A8 (a:Int) {m:Int} (h0:0<=m) (h1:m<=9223372036854775807):0<=vP a m/\vP a m<=m:=by
 have hle:(BitVec.ofInt 64 a &&& BitVec.ofInt 64 m).toNat<=m.toNat:=by
  rw[BitVec.toNat_and]
  refine le_trans Nat.and_le_right ?_
  rw[BitVec.toNat_ofInt]
  have h64:((2 ^ 64:Nat):Int)=18446744073709551616:=ae
  have:m % ((2 ^ 64:Nat):Int)=m:=Int.emod_eq_of_lt h0 J
  rw[this]
  exact le_refl _
 unfold vP
 rw[iW (by constructor<;>omega)]
 omega
def Mj:TypeId->Option Ty
 | 3=>some .int
 | 5=>some .u8
 | 22=>some (.slice .u8)
 | 159=>some aal
 | _=>none
theorem Su:bD prog Mj:=by
 intro ty t h
 unfold Mj at h
 split at h
 all_goals first|cases h; done|(injection h with h; subst h; exact aaH ai ai)
attribute [go_sem] Mj
theorem abk:VL Mj:=by
 intro ty h
 unfold Mj at h
 split at h<;>cases h
@[go_sem] theorem acf {P:Program} {lt:Nat->Option AV} {K:bb->Prop} {op:BinOp} {ty:TypeId} {x y:Operand}:Ji P Mj lt K op ty x y=G1 P lt K op ty x y:=if_pos abk
def nu (l:List Int) (i:Nat):Int:=nth (t:=.u8) l i
@[go_sem] theorem ad9 (l:List Int) (i:Nat):@nth .u8 l i=nu l i:=(rfl)
structure Cu (code:List Int) where
 i:Nat
 h:Int
 hi:i<=code.length
 hh:bU h
def E7 (h:Int):Int:=IntKind.i64.wrap (IntKind.i64.wrap (h * 6364136223846793005)+1442695040888963407)
def J4 (h:Int):Int:=vP (T4 (h.fdiv (2 ^ 33)) (h.fdiv (2 ^ 45))) 255
theorem Ec (h:Int):0<=J4 h/\J4 h<=255:=A8 _ ae ae
variable {code:List Int}
def Cu.next (c:Cu code):Cu code:=⟨if c.i < code.length then c.i+1 else c.i,E7 c.h,by have:=c.hi; split<;>omega,tU _⟩
def Cu.byte (c:Cu code):Int:=if c.i < code.length then vP (J4 (E7 c.h)+nu code c.i) 255 else J4 (E7 c.h)
theorem Cu.TD (c:Cu code):0<=c.byte/\c.byte<=255:=by
 unfold Cu.byte
 split
 ·exact A8 _ ae ae
 ·exact Ec _
@[reducible] def cz (c:Cu code):List Value:=[.int .i64 c.i,.int .i64 c.h]
theorem nH (c:Cu code):∀z ∈ cz c,z.oneCell'=true:=by
 intro z hz
 rcases mem_cons.1 hz with rfl|hz
 ·rfl
 ·rw[mem_singleton.1 hz]; rfl
theorem np (hc:code.length<=1048576) (c:Cu code):∀z ∈ cz c,z.oneCell'=true/\jO z:=by
 intro z hz
 have:=c.hi
 rcases mem_cons.1 hz with rfl|hz
 ·exact⟨rfl,by show bU (c.i:Int); constructor<;>omega⟩
 ·rw[mem_singleton.1 hz]; exact⟨rfl,c.hh⟩
abbrev Dr (f:FuncId) (c c':Cu code) (args:List aL) (own:Bool) (d:aL):Prop:=Xs prog f .u8 code (cz c) (cz c') args own d
theorem Wi (hw:Wf (.slice .u8) code) {i:Nat} (h:i < code.length):0<=nu code i/\nu code i<=255:=by
 rw[nu,aM h]; exact hw.2 _ (getElem_mem h)
theorem BM (hc:code.length<=1048576) (c:Cu code):Dr 127 c c.next [] false ⟨.int,c.byte⟩:=by
 have hi:=c.hi
 have h1:=c.hh.1
 have h2:=c.hh.2
 have h3:=c.next.hh.1
 have h4:=c.next.hh.2
 have h5:=c.next.hi
 by_cases hlt:c.i < code.length
 ·have e1:c.next.i=c.i+1:=if_pos hlt
  have e2:c.byte=vP (J4 (E7 c.h)+nu code c.i) 255:=if_pos hlt
  rw[e2]
  refine ji Su bA func127 rfl rfl _ ntmps127 _ results127 ah (np hc _) (nH _) fun b u0 hwl hzs hwf=>?_
  have hu:=Wi hwl hlt
  have hx:=Ec (E7 c.h)
  unfold J4 E7 at hx
  have d1:decide ((c.i:Int) < (code.length:Int))=true:=aj J
  have w1:IntKind.i64.wrap ((c.i:Int)+1)=(c.i:Int)+1:=iW (by constructor<;>omega)
  have w2:=iW (n:=vP (T4 ((IntKind.i64.wrap (IntKind.i64.wrap (c.h * 6364136223846793005)+1442695040888963407)).fdiv (2 ^ 33)) ((IntKind.i64.wrap (IntKind.i64.wrap (c.h * 6364136223846793005)+1442695040888963407)).fdiv (2 ^ 45))) 255+nu code c.i) (by constructor<;>omega)
  refine Sz ?_
  try simp (maxSteps:=9^9) only[go_sem,d1,w1,w2,e1]
  repeat refine AI ?_
  and_intros
  all_goals first|rfl|omega
 ·have e1:c.next.i=c.i:=if_neg hlt
  have e2:c.byte=J4 (E7 c.h):=if_neg hlt
  rw[e2]
  refine ji Su bA func127 rfl rfl _ ntmps127 _ results127 ah (np hc _) (nH _) fun b u0 hwl hzs hwf=>?_
  have hx:=Ec (E7 c.h)
  have d1:decide ((c.i:Int) < (code.length:Int))=false:=ak J
  refine Sz ?_
  refine Tz d1 ?_
  refine Uz e1 ?_
  and_intros
  all_goals first|rfl|omega
def Cu.below (c:Cu code) (n:Int):Int:=c.byte % n
theorem Cu.a7 (c:Cu code) {n:Int} (h:1<=n):0<=c.below n/\c.below n < n:=⟨Int.emod_nonneg _ J,Int.emod_lt_of_pos _ J⟩
theorem bs (hc:code.length<=1048576) (c:Cu code) (n:Int) (h:1<=n/\n<=256):Dr 106 c c.next [⟨.int,n⟩] false ⟨.int,c.below n⟩:=by
 have hb:=c.TD
 have d1:decide (n<=0)=false:=ak J
 have d2:decide (n<=256)=true:=aj J
 refine ji bK bA func106 rfl rfl _ ntmps106 _ results106 ah (np hc _) (nH _) fun b u0 hwl hzs hwf=>?_
 refine fy d1 d2 ?_
 refine aO.c false (BM hc c) ?_
 refine Nz ?_
 refine fR.pos hb.1 J ?_
 refine Nz ?_
 rfl
theorem vJ (hc:code.length<=1048576) (c:Cu code) (n:Int) (h:1<=n/\n<=256):Dr 109 c c.next [⟨.int,n⟩] false ⟨.bool,decide (c.below n=0)⟩:=by
 refine ji bK bA func109 rfl rfl _ ntmps109 _ results109 ah (np hc _) (nH _) fun b u0 hwl hzs hwf=>?_
 refine Sz ?_
 refine aO.c false (bs hc c n h) ?_
 try simp (maxSteps:=9^9) only[go_sem]
def h0 (code:List Int):Nat->Int
 | 0=>1952+code.length
 | k+1=>vP (h0 code k * 61+nu code k+7) 1073741823
theorem P5 (hc:code.length<=1048576) (k:Nat):0<=h0 code k/\h0 code k<=1073741823:=by
 cases k with
 | zero=>show 0<=1952+(code.length:Int)/\1952+(code.length:Int)<=1073741823; omega
 | succ k=>exact A8 _ ae ae
def Cu.new (code:List Int) (hc:code.length<=1048576):Cu code:=⟨0,h0 code (min code.length 4000),zero_le _,by have:=P5 hc (min code.length 4000); constructor<;>omega⟩
theorem E2 (hc:code.length<=1048576):Qz prog 44 .u8 code (cz (Cu.new code hc)) []:=by
 refine FK bK bA func44 rfl rfl _ ntmps44 _ results44 ah (np hc _) fun u0 hwl hwf=>?_
 refine Sz ?_
 refine aF.intro _ _ _ (fun i:Nat=>⟨[(0,.fx u0 .u8 code),(3,.sc (.int .i64 (h0 code i))),(4,.sc (.int .i64 i))],[]⟩) (fun i=>i<=code.length/\i<=4000) (fun i=>code.length - i) 0 ?_ ⟨zero_le _,zero_le _⟩ ?_
 ·exact WK
 ·rintro i ⟨hi,hi2⟩
  have hr:=P5 hc i
  refine Nz ?_
  refine lv ?_ ?_<;>intro hA
  ·refine Nz ?_
   refine ao ?_ ?_<;>intro hB
   ·have hu:=Wi hwl (show i < code.length from J)
    refine Sz ?_
    refine Sz ?_
    refine az.mk (i+1) ?_ ⟨J,J⟩ J
    exact WK
   ·have e:min code.length 4000=i:=J
    refine Nz ?_
    exact⟨rfl,by show h0 code i=h0 code (min code.length 4000); rw[e]⟩
  ·have e:min code.length 4000=i:=J
   refine Nz ?_
   exact⟨rfl,by show h0 code i=h0 code (min code.length 4000); rw[e]⟩
def Cu.skip (c:Cu code):Nat->Cu code
 | 0=>c
 | k+1=>(c.skip k).next
def Cu.at (code:List Int) (hc:code.length<=1048576) (n:Int):Cu code:=(Cu.new code hc).skip n.toNat
theorem Rf (hc:code.length<=1048576) (n:Int) (hn:0<=n/\n<=1000):Qz prog 51 .u8 code (cz (Cu.at code hc n)) [⟨.int,n⟩]:=by
 refine FK bK bA func51 rfl rfl _ ntmps51 _ results51 ah (np hc _) fun u0 hwl hwf=>?_
 refine Sz ?_
 refine aO.nb (E2 hc) ?_
 refine Nz ?_
 refine aF.intro _ _ _ (fun i:Nat=>⟨[(1,.sc (.int .i64 n)),(5,.ptr 0 0),(6,.sc (.int .i64 i))],[(0,.box (.fx u0 .u8 code :: (cz ((Cu.new code hc).skip i)).map fun z=>.sc z))]⟩) (fun i=>(i:Int)<=n) (fun i=>n.toNat - i) 0 ?_ J ?_
 ·exact WK
 ·rintro i hi
  refine Nz ?_
  refine ao ?_ ?_<;>intro hA
  ·refine Sz ?_
   refine aO.c false (BM hc ((Cu.new code hc).skip i)) ?_
   refine Sz ?_
   refine az.mk (i+1) ?_ J J
   exact WK
  ·have e:n.toNat=i:=J
   refine Nz ?_
   unfold Cu.at
   rw[e]
   exact⟨rfl,rfl⟩
end DW
end Go.Proofs.YtkaclgdhlpphhaaGreat
end
