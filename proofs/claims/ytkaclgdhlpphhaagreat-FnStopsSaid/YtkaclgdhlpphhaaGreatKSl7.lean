/-
  Texts of a proof.
-/
import Derived.Test.YtkaclgdhlpphhaaGreatKSl6
set_option linter.all false
set_option maxRecDepth 100000
set_option maxHeartbeats 16000000
open Go.Proofs.Tryz
open Nat (le_refl zero_le le_trans zero_add)
open List (mem_append replicate mem_singleton mem_cons mem_cons_self mem_cons_of_mem length_append length_take mem_map length_set all_eq_true length_map length_cons getElem_mem length_drop append_nil nodup_nil mem_nil_iff nodup_cons getElem?_set length_nil range')
noncomputable section
namespace Go.Proofs.YtkaclgdhlpphhaaGreat
namespace DW
open Go.RowKit
theorem L6 {L:List (List Int)} {frm to:Int} {i:Nat} (h:(im L frm to i).1.length<=i):∀d,im L frm to (i+d)=im L frm to i
 | 0=>rfl
 | d+1=>by
  have ih:=L6 h d
  show im L frm to (i+d+1)=_
  rw[im,ih,if_neg J]
theorem Ux {L:List (List Int)} {frm to:Int} {i:Nat} (h:(im L frm to i).1.length<=i) (hm:∀j,j < i->C7 L frm to j=false):Cf L frm to=[]:=by
 have hall:∀j,j < L.length+1->C7 L frm to j=false:=fun j _=>by
  by_cases c:j < i
  ·exact hm j c
  ·obtain⟨d,rfl⟩:∃d,j=i+d:=⟨j - i,J⟩
   unfold C7
   rw[L6 h d,ak J]; rfl
 unfold Cf
 rw[Be hall]
theorem Z0 {L:List (List Int)} {frm to:Int} {i:Nat} (hi:i < L.length+1) (ht:C7 L frm to i=true) (hm:∀j,j < i->C7 L frm to j=false):Cf L frm to=nth (t:=aq) (im L frm to i).1 i:=by
 unfold Cf
 rw[IY hi ht hm]
def yr (S:List bk) (L:List (List Int)) (g h:Nat) (p q:DP):List Int:=if ic S g p < 0\/ic S h q < 0 then [] else Cf L (ic S g p) (ic S h q)
theorem EB (s:dG) (S:List bk) (op:List Int) (L:List (List Int)) (g h:Nat) (p q:DP) (hS:sV S) (hg:g < 4) (hh:h < 4) (hp:bj p=true) (hq:bj q=true) (hL:L.length=ee S 4) (hL6:L.length<=1000000) (hLr:∀l ∈ L,∀k ∈ l,0<=k/\k < (L.length:Int)) (hLl:∀l ∈ L,l.length<=1000000):Fn prog 21 [⟨mc,(s,S,op,L)⟩,⟨bu,((g:Int),p)⟩,⟨bu,((h:Int),q)⟩] false [⟨aq,yr S L g h p q⟩]:=by
 have hS4:=hS.four
 have r1:Fn prog 60 [⟨mc,(s,S,op,L)⟩,⟨bu,((g:Int),p)⟩] false [⟨.int,ic S g p⟩]:=zm (L:=L) (l5 s S op g p hp J J hS.len (uC hS hg p))
 have r2:Fn prog 60 [⟨mc,(s,S,op,L)⟩,⟨bu,((h:Int),q)⟩] false [⟨.int,ic S h q⟩]:=zm (L:=L) (l5 s S op h q hq J J hS.len (uC hS hh q))
 have cl:=fun k=>Po s S op L k J
 have m1:=mF S (4 - (g+1)) (g+1)
 rw[show g+1+(4 - (g+1))=4 from J] at m1
 have rr1:=yW hS hg p
 unfold yr
 obtain⟨p1,p2⟩:=p
 obtain⟨q1,q2⟩:=q
 generalize ic S g (p1,p2)=a at *
 generalize ic S h (q1,q2)=b at *
 by_cases d1:a < 0
 ·rw[if_pos (.inl d1)]
  have e1:=aj d1
  obtain⟨⟨a1,a2⟩,⟨b1,b2⟩,r,ob,tb⟩:=s
  refine fe func21 ntmps21 results21 fun hwf=>?_
  refine Cz r1 ?_
  refine cw r2 ?_
  try simp (maxSteps:=9^9) only[go_sem]
  all_goals exact Gz e1
 have e1:=ak d1
 by_cases d2:b < 0
 ·rw[if_pos (.inr d2)]
  have e2:=aj d2
  obtain⟨⟨a1,a2⟩,⟨b1,b2⟩,r,ob,tb⟩:=s
  refine fe func21 ntmps21 results21 fun hwf=>?_
  refine Cz r1 ?_
  refine cw r2 ?_
  try simp (maxSteps:=9^9) only[go_sem]
  all_goals exact CW e1 e2
 have e2:=ak d2
 rw[if_neg J]
 have hf:0<=a/\a < (L.length:Int):=J
 have hPB:=fun i=>IV (to:=b) hf hLr i
 have hI0:im L a b 0=([[a]],[a]):=rfl
 have hIs:∀i,i < (im L a b i).1.length->nF (nth (t:=aq) (im L a b i).1 i) ≠ b->im L a b (i+1)=ya (nth (t:=aq) (im L a b i).1 i) ((ns L (nF (nth (t:=aq) (im L a b i).1 i))).mergeSort mS) (im L a b i) (ns L (nF (nth (t:=aq) (im L a b i).1 i))).length:=fun i h1 h2=>by rw[im,if_pos ⟨h1,h2⟩]
 have hT:∀i,C7 L a b i=(decide (i < (im L a b i).1.length) && decide (nF (nth (t:=aq) (im L a b i).1 i)=b)):=fun _=>rfl
 have hR0:=fun i=>Ux (L:=L) (frm:=a) (to:=b) (i:=i)
 have hR1:=fun i=>Z0 (L:=L) (frm:=a) (to:=b) (i:=i)
 have hlk:∀k,∀x ∈ ns L k,0<=x/\x < (L.length:Int):=fun k x hx=>by
  unfold ns at hx
  split at hx
  ·exact hLr _ (aS (t:=aq) J) x hx
  ·cases hx
 have hkl:∀k,(ns L k).length<=1000000:=fun k=>by
  unfold ns
  split
  ·exact hLl _ (aS (t:=aq) J)
  ·exact zero_le _
 generalize hI:im L a b=I at *
 generalize C7 L a b=T at *
 generalize Cf L a b=R at *
 obtain⟨⟨a1,a2⟩,⟨b1,b2⟩,r,ob,tb⟩:=s
 refine fe func21 ntmps21 results21 fun hwf=>?_
 refine Cz r1 ?_
 refine cw r2 ?_
 try simp (maxSteps:=9^9) only[go_sem]
 refine fy e1 e2 ?_
 refine aF.intro _ _ _ (fun i:Nat=>⟨[(3,.ptr 0 0),(8,.sc (.int .i64 b)),(9,.row 1 0),(10,.row 2 0),(11,.sc (.int .i64 i))],[(0,.box (Hv ((a1,a2),(b1,b2),r,ob,tb) S op L)),(1,.row 31 aq 0 true (I i).1),(2,.row 3 .int 0 true (I i).2)]⟩) (fun i=>i<=(I i).1.length/\∀j,j < i->T j=false) (fun i=>L.length - i) 0 ?_ ⟨zero_le _,fun j hj=>absurd hj (Nat.not_lt_zero _)⟩ ?_
 ·rw[hI0]
  exact WZz [(1,4),(2,5)]
 ·rintro i ⟨hi,hm⟩
  have hb:=hPB i
  have hbl:=hb.len
  have hbs:=hb.aaY
  refine Nz ?_
  refine ao ?_ ?_<;>intro hA
  ·have hil:i < (I i).1.length:=J
   obtain⟨w1,w2⟩:=hb.ln i hil
   have hTi:=hT i
   rw[aj hil,Bool.true_and] at hTi
   have hIi:=hIs i hil
   have hmn:T i=false->∀j,j < i+1->T j=false:=fun h0 j hj=>by
    by_cases h:j < i
    ·exact hm j h
    ·rw[show j=i from J]; exact h0
   have hJ:=fun m hm=>IP hb hil (nx:=(ns L (nF (nth (t:=aq) (I i).1 i))).mergeSort mS) (fun k hk=>hlk _ k ((List.mergeSort_perm _ _).mem_iff.1 hk)) (fun k hk=>(List.mergeSort_perm _ _).mem_iff.1 hk) m hm
   have hJ0:∀w nx s,ya w nx s 0=s:=fun _ _ _=>rfl
   have hJs:∀w nx s j,ya w nx s (j+1)=wo w (ya w nx s j) (ni nx j):=fun _ _ _ _=>rfl
   have els:∀w:List Int,ni w (w.length - 1)=nF w:=fun _=>rfl
   have hsl:∀l:List Int,(l.mergeSort mS).length=l.length:=fun l=>List.length_mergeSort _
   generalize hst:I i=st at *
   generalize hw:nth (t:=aq) st.1 i=w at *
   have hkn:((w.length:Int) - 1).toNat=w.length - 1:=J
   generalize hls:nF w=z at *
   have hez:=els w
   rw[hls] at hez
   have c1:=jU w J
   have c2:=cl z
   have hkz:=hkl z
   have hslz:=hsl (ns L z)
   by_cases hz:z=b
   ·have hd:=aj hz
    rw[hd] at hTi
    have hR:=hR1 i J hTi hm
    rw[hst,hw] at hR
    try simp (maxSteps:=9^9) only[go_sem,hw,hkn,hez]
    repeat refine AI ?_
    refine Tz hd ?_
    refine cw c1 ?_
    refine Nz ?_
    rw[hR]
    all_goals exact Ez
   ·have hd:=ak hz
    rw[hd] at hTi
    have hm2:=hmn hTi
    have hIi:=hIi hz
    have c3:=qp w J J
    generalize hnx:ns L z=nx at *
    generalize hso:nx.mergeSort mS=so at *
    have c4:=jU nx J
    have c5:=fun k=>nK k
    rcases Nat.eq_zero_or_pos nx.length with h0|h0
    ·obtain rfl:nx=[]:=List.eq_nil_of_length_eq_zero h0
     have c6:=Hz
     have hso0:so=[]:=List.eq_nil_of_length_eq_zero (by rw[hslz]; exact h0)
     have z1:decide ((0:Int) < ((0:Nat):Int))=false:=ae
     try simp (maxSteps:=9^9) only[go_sem,hw,hkn,hez]
     repeat refine AI ?_
     refine Tz hd ?_
     refine cw c2 ?_
     refine Cz c4 ?_
     refine cw c6 ?_
     refine Sz ?_
     refine aF.intro _ _ _ (fun _:Unit=>⟨[(3,.ptr 0 0),(8,.sc (.int .i64 b)),(9,.row 1 0),(10,.row 2 0),(11,.sc (.int .i64 i)),(62,.sc (.int .i64 ((0:Nat):Int))),(63,.sc (.int .i64 0))],[(0,.box (Hv ((a1,a2),(b1,b2),r,ob,tb) S op L)),(1,.row 31 aq 0 true st.1),(2,.row 3 .int 0 true st.2)]⟩) (fun _=>True) (fun _=>0) () ?_ trivial ?_
     ·exact WK
     ·rintro _ _
      refine Tz z1 ?_
      refine az.mk (i+1) ?_ ⟨?_,hm2⟩ J
      ·rw[show I (i+1)=st from hIi]
       exact WK
      ·rw[show I (i+1)=st from hIi]; omega
    ·have c6:=qp nx h0 J
     have c7:=ry nx J
     rw[hso] at c7
     try simp (maxSteps:=9^9) only[go_sem,hw,hkn,hez]
     repeat refine AI ?_
     refine Tz hd ?_
     refine cw c2 ?_
     refine Sz ?_
     refine aO.g (c6) ?_
     refine Sz ?_
     refine aO.r (k:=3) (ver:=0) (o:=true) (c7) ?_
     refine Sz ?_
     refine aF.intro _ _ _ (fun m:Nat=>⟨[(3,.ptr 0 0),(8,.sc (.int .i64 b)),(9,.row 1 0),(10,.row 2 0),(11,.sc (.int .i64 i)),(12,.sl .int w),(61,.sl .int so),(62,.sc (.int .i64 so.length)),(63,.sc (.int .i64 m))],[(0,.box (Hv ((a1,a2),(b1,b2),r,ob,tb) S op L)),(1,.row 31 aq 0 true (ya w so st m).1),(2,.row 3 .int 0 true (ya w so st m).2)]⟩) (fun m=>m<=so.length) (fun m=>so.length - m) 0 ?_ (zero_le _) ?_
     ·rw[hJ0]
      exact WK
     ·rintro m hmm
      obtain⟨hbm,hpm⟩:=hJ m J
      have hjl:=hbm.len
      have hjs:=hbm.aaY
      have hj1:=hJs w so st m
      generalize hsm:ya w so st m=sm at *
      refine Nz ?_
      refine ao ?_ ?_<;>intro hB
      ·have hml:m < so.length:=J
       have c8:=c5 sm.2 (ni so m)
       cases hc:(sm.2.any fun y=>decide (ni so m=y))<;>rw[hc] at c8
       ·have e:wo w sm (ni so m)=(sm.1++[w++[ni so m]],sm.2++[ni so m]):=by unfold wo; rw[hc]; rfl
        rw[e] at hj1
        refine Cz c8 ?_
        refine aO.g (c3) ?_
        refine Sz ?_
        refine az.mk (m+1) ?_ J J
        rw[hj1]
        exact WK
       ·have e:wo w sm (ni so m)=sm:=by unfold wo; rw[hc]; rfl
        rw[e] at hj1
        refine Cz c8 ?_
        refine az.mk (m+1) ?_ J J
        rw[hj1]
        exact WK
      ·obtain rfl:m=so.length:=J
       rw[hslz] at hsm
       refine Sz ?_
       refine az.mk (i+1) ?_ ⟨?_,hm2⟩ J
       ·rw[hIi,hsm]
        exact WK
       ·rw[hIi,hsm]
        have:=hpm.length_le
        omega
  ·have hR:=hR0 i J hm
   rw[hR]
   all_goals exact Fz
theorem szF {r:DR} (h:gF r):r.1.2.length<=1048576/\r.2.length<=1048576:=by
 unfold gF at h
 have ho:=aI r
 generalize aw r=x at *
 subst h
 cases x with
 | none=>exact⟨zero_le _,zero_le _⟩
 | some q =>
  have:=ho q rfl
  exact⟨le_trans this.1 ae,le_trans this.2 ae⟩
theorem JR {p:DP} (h:gB p):xA p:=⟨szF h.1,szF h.2⟩
theorem Cv:gB M7:=⟨iu (x:=none) (fun q h=>by cases h),iu (x:=none) (fun q h=>by cases h)⟩
theorem Sl {x y:Option Rat} (hx:aY x) (hy:aY y):gB (FL x y):=by
 unfold FL
 split
 ·exact⟨iu hx,iu hy⟩
 ·exact Cv
theorem GW {p:DP} (h:bj p=true):gB p:=by
 unfold bj at h
 rw[Bool.and_eq_true] at h
 exact⟨bg h.1,bg h.2⟩
theorem Tj (k:dZ):gB (nv k):=by
 unfold nv
 split
 ·exact Sl (iH _ _) (iH _ _)
 ·exact Cv
theorem Qv (W:List fU) (i:Int):gB (wj W i):=by
 unfold wj Ga
 split
 ·split
  ·exact Sl (aI _) (iH _ _)
  ·exact Cv
 ·exact Cv
theorem S5 {C:List dZ} {W:List fU} {n:Nat} {D:List DV} {ws:List Int} {to frm:Int}:∀i,∀p ∈ wg C W n D ws to frm i,gB p
 | 0,p,hp=>by rw[mem_singleton.1 hp]; exact Tj _
 | i+1,p,hp=>by
  rw[wg,mem_append] at hp
  rcases hp with hp|hp
  ·exact S5 i p hp
  ·simp only[mem_cons,mem_nil_iff,or_false] at hp
   rcases hp with rfl|rfl
   ·exact Qv _ _
   ·exact Tj _
theorem RT {x:bk} {p q:DP} (hp:bj p=true) (hq:bj q=true):∀y ∈ eL x p q,gB y:=by
 intro y hy
 have hw:∀i,∀y ∈ xq x i,gB y:=fun i y hy=>by
  unfold xq at hy
  split at hy
  ·rw[mem_singleton.1 hy]; exact Qv _ _
  ·cases hy
 unfold eL at hy
 split at hy
 ·unfold Aw at hy
  simp only[mem_append,mem_cons,mem_nil_iff,or_false] at hy
  rcases hy with ((hy|hy)|rfl)
  ·rcases hy with (rfl|hy)|hy
   ·exact GW hp
   ·exact hw _ _ hy
   ·unfold sf at hy
    split at hy
    ·split at hy
     ·cases hy
     ·exact S5 _ _ hy
    ·cases hy
  ·exact hw _ _ hy
  ·exact GW hq
 ·cases hy
def lY (at':DP) (st:List DS) (l:List DP):Nat->DP × List DS
 | 0=>(at',st)
 | i+1=>if l6 (nth (t:=ax) l i) (lY at' st l i).1=true then lY at' st l i else (nth (t:=ax) l i,(lY at' st l i).2++[((0:Int),nth (t:=ax) l i)])
theorem yQ {at':DP} {st:List DS} {l:List DP}:∀i,(lY at' st l i).2.length<=st.length+i
 | 0=>le_refl _
 | i+1=>by
  have:=yQ (at':=at') (st:=st) (l:=l) i
  rw[lY]
  split
  ·omega
  ·rw[length_append,List.length_singleton]; omega
@[go_sem] def Nh (ver:Nat) (p:DP) (st:List DS):Mm:=[(0,.bx none (js ax p++[.row 1 ver])),(1,.row 77 bu ver false st)]
theorem YC {l:List DP} (h:∀y ∈ l,gB y) {i:Nat} (hi:i < l.length):xA (nth (t:=ax) l i):=JR (h _ (aS (t:=ax) hi))
theorem QH (x:bk) (p q:DP) (st:List DS) (hp:bj p=true) (hq:bj q=true) (hC:x.2.2.2.2.1.length<=1000000) (hW:x.2.2.2.2.2.1.length<=1000000) (hD:x.2.2.2.2.2.2.1.length<=100000000) (hst:st.length<=1000000000) (hsp:lM x p q=true):n0 prog 57 [.ptr 0 0,.agg (xS x),.agg (js ax q)] (Nh 0 p st) (.sc (.bool true)) (Nh 1 (lY p st ((eL x p q).drop 1) ((eL x p q).drop 1).length).1 (lY p st ((eL x p q).drop 1) ((eL x p q).drop 1).length).2):=by
 have c1:=xT x p q hp hq hC hW hD
 have hgb:=RT (x:=x) hp hq
 rw[hsp] at c1
 have hP:1<=(eL x p q).length:=by
  unfold eL Aw
  rw[if_pos hsp]
  simp only[length_append,length_cons,length_nil]
  omega
 have hl:(eL x p q).length<=3000000:=by
  have:=DG x (gq x p).1 (gq x q).1
  unfold eL Aw
  rw[if_pos hsp]
  simp only[length_append,length_cons,length_nil]
  have hw:∀i,(xq x i).length<=1:=fun i=>by unfold xq; split<;>simp
  have h1:=hw (gq x p).2
  have h2:=hw (gq x q).2
  omega
 generalize eL x p q=P at *
 have hgd:∀y ∈ P.drop 1,gB y:=fun y hy=>hgb y (List.mem_of_mem_drop hy)
 have hdl:(P.drop 1).length<=3000000:=by rw[length_drop]; omega
 have hal:=fun i=>yQ (at':=p) (st:=st) (l:=P.drop 1) i
 have ha0:lY p st (P.drop 1) 0=(p,st):=rfl
 have has:∀i,lY p st (P.drop 1) (i+1)=if l6 (nth (t:=ax) (P.drop 1) i) (lY p st (P.drop 1) i).1=true then lY p st (P.drop 1) i else (nth (t:=ax) (P.drop 1) i,(lY p st (P.drop 1) i).2++[((0:Int),nth (t:=ax) (P.drop 1) i)]):=fun _=>rfl
 generalize hA:lY p st (P.drop 1)=A at *
 obtain⟨hd,o,⟨⟨b1,b2⟩,⟨b3,b4⟩⟩,a,C,W,D,T⟩:=x
 refine dq bK bA func57 rfl rfl _ ntmps57 _ results57 ah (by first|exact .inl rfl|exact .inr ⟨_,rfl⟩) fun β=>?_
 refine Sz ?_
 refine cw c1 ?_
 try simp (maxSteps:=9^9) only[go_sem]
 try simp (maxSteps:=9^9) only[go_sem,List.take_length]
 repeat refine AI ?_
 refine aF.intro _ _ _ (fun i:Nat=>⟨[(0,.ptr 0 0),(24,.sl ax (P.drop 1)),(25,.sc (.int .i64 (P.drop 1).length)),(26,.sc (.int .i64 i))],[(0,.bx (some (β 0)) (js ax (A i).1++[.row 1 0])),(1,.row 77 bu 0 false (A i).2)]⟩) (fun i=>i<=(P.drop 1).length) (fun i=>(P.drop 1).length - i) 0 ?_ (zero_le _) ?_
 ·rw[ha0]
  exact WK
 ·rintro i hi
  refine Nz ?_
  refine ao ?_ ?_<;>intro hB
  ·have hlt:i < (P.drop 1).length:=J
   have hli:=hal i
   have hai:=has i
   have c2:=zO (nth (t:=ax) (P.drop 1) i) (A i).1
   have c3:=nS (nth (t:=ax) (P.drop 1) i) (YC hgd hlt)
   generalize hy:nth (t:=ax) (P.drop 1) i=y at *
   by_cases he:l6 y (A i).1=true
   ·rw[he] at c2
    rw[if_pos he] at hai
    refine Tz hy ?_
    refine cw c2 ?_
    refine Sz ?_
    refine az.mk (i+1) ?_ J J
    rw[hai]
    exact WK
   ·rw[if_neg he] at hai
    rw[Bool.not_eq_true] at he
    rw[he] at c2
    refine Tz hy ?_
    refine cw c2 ?_
    try simp (maxSteps:=9^9) only[go_sem]
    refine Tz hy ?_
    refine cw c3 ?_
    refine Sz ?_
    refine az.mk (i+1) ?_ J J
    rw[hai]
    exact WK
  ·obtain rfl:i=(P.drop 1).length:=J
   refine Nz ?_
   exact WK
theorem Pc (x:bk) (p q:DP) (st:List DS) (hp:bj p=true) (hq:bj q=true) (hC:x.2.2.2.2.1.length<=1000000) (hW:x.2.2.2.2.2.1.length<=1000000) (hD:x.2.2.2.2.2.2.1.length<=100000000) (hsp:lM x p q=false):n0 prog 57 [.ptr 0 0,.agg (xS x),.agg (js ax q)] (Nh 0 p st) (.sc (.bool false)) (Nh 1 p st):=by
 have c1:=xT x p q hp hq hC hW hD
 rw[hsp] at c1
 generalize eL x p q=P at *
 obtain⟨hd,o,⟨⟨b1,b2⟩,⟨b3,b4⟩⟩,a,C,W,D,T⟩:=x
 refine dq bK bA func57 rfl rfl _ ntmps57 _ results57 ah (by first|exact .inl rfl|exact .inr ⟨_,rfl⟩) fun β=>?_
 refine Cz c1 ?_
 exact WK
theorem Uv (g h:Int) (p:DP) (st:List DS) (hp:xA p) (hg:g.natAbs<=1000) (hh:h.natAbs<=1000) (hst:st.length<=1000000000):n0 prog 59 [.ptr 0 0,.sc (.int .i64 g),.sc (.int .i64 h)] (Nh 1 p st) (.dY []) (Nh 2 p (st++(xb g h).map fun t=>(t,p))):=by
 have c1:=Da g h hg hh
 have c2:=nS p hp
 have hl:(xb g h).length<=2:=by
  unfold xb
  split
  ·rename_i h1
   have:nth (t:=aq) [[],[1],[1,1],[-1]] ((h - g+4) % 4).toNat ∈ ([[],[1],[1,1],[-1]]:List (List Int)):=aS (t:=aq) (by show _ < 4; omega)
   simp only[mem_cons,mem_nil_iff,or_false] at this
   rcases this with e|e|e|e<;>rw[e]<;>decide
  ·decide
 generalize xb g h=T at *
 refine dq bK bA func59 rfl rfl _ ntmps59 _ results59 ah (by first|exact .inl rfl|exact .inr ⟨_,rfl⟩) fun β=>?_
 refine Bz c1 ?_
 refine aF.intro _ _ _ (fun i:Nat=>⟨[(0,.ptr 0 0),(10,.sl .int T),(11,.sc (.int .i64 T.length)),(12,.sc (.int .i64 i))],[(0,.bx (some (β 0)) (js ax p++[.row 1 0])),(1,.row 77 bu 0 false (st++(T.take i).map fun t=>(t,p)))]⟩) (fun i=>i<=T.length) (fun i=>T.length - i) 0 ?_ (zero_le _) ?_
 ·refine Wk.mk [] ?_
  refine Nz ?_
  try (and_intros<;>first|rfl|omega|exact⟨_,rfl⟩)
  exact⟨rfl,(append_nil _).symm⟩
 ·rintro i hi
  refine Nz ?_
  refine ao ?_ ?_<;>intro hB
  ·have hlt:i < T.length:=J
   have e:(T.take (i+1)).map (fun t=>((t,p):DS))=(T.take i).map (fun t=>((t,p):DS))++[(ni T i,p)]:=by
    rw[List.take_succ_eq_append_getElem hlt,List.map_append,cd hlt]; rfl
   have hll:st.length+((T.take i).map fun t=>((t,p):DS)).length<=1000000002:=by
    rw[length_map,length_take]; omega
   refine Cz c2 ?_
   refine az.mk (i+1) ?_ J J
   rw[e,<-List.append_assoc]
   exact WK
  ·obtain rfl:i=T.length:=J
   rw[List.take_length]
   refine Nz ?_
   exact WK
def nB (x:bk) (st:DP × List DS) (t:DP):DP × List DS:=lY st.1 st.2 ((eL x st.1 t).drop 1) ((eL x st.1 t).drop 1).length
def jf (S:List bk) (k:Int):bk:=nth (t:=aP) S (ik S k).toNat
def nE (s:dG) (S:List bk) (op:List Int) (j k:Int):DP:=ct (nth (t:=an) s.2.2.2.2 (od s S op j k).toNat)
def Ik (s:dG) (S:List bk) (op:List Int) (j k:Int) (st:DP × List DS):Option (DP × List DS) :=
 if (ik S j < 0\/ik S k < 0\/od s S op j k < 0)\/lM (jf S j) st.1 (nE s S op j k)=false then none
 else some ((nB (jf S j) st (nE s S op j k)).1,(nB (jf S j) st (nE s S op j k)).2++(xb (ik S j) (ik S k)).map fun t=>((t,(nB (jf S j) st (nE s S op j k)).1):DS))
def qn (s:dG) (S:List bk) (op rg:List Int) (p:DP):Nat->Option (DP × List DS)
 | 0=>some (p,[])
 | i+1=>(qn s S op rg p i).bind (Ik s S op (ni rg i) (ni rg (i+1)))
def Jr (S:List bk) (j:Int) (q:DP) (st:DP × List DS):Option (List DS) :=
 if ik S j < 0\/lM (jf S j) st.1 q=false then none else some (nB (jf S j) st q).2
def Ag (s:dG) (S:List bk) (op rg:List Int) (p q:DP):Option (List DS) :=
 if rg=[] then none else (qn s S op rg p (rg.length - 1)).bind (Jr S (ni rg (rg.length - 1)) q)
theorem Kb {s:dG} {S:List bk} {op rg:List Int} {p:DP} {i:Nat} (h:qn s S op rg p i=none):∀d,qn s S op rg p (i+d)=none
 | 0=>h
 | d+1=>by
  show (qn s S op rg p (i+d)).bind _=none
  rw[Kb h d]; rfl
theorem TX {s:dG} {S:List bk} {op rg:List Int} {p q:DP} {i:Nat} (h:qn s S op rg p i=none) (hi:i < rg.length):Ag s S op rg p q=none:=by
 unfold Ag
 split
 ·rfl
 ·have:=Kb h (rg.length - 1 - i)
  rw[show i+(rg.length - 1 - i)=rg.length - 1 from J] at this
  rw[this]; rfl
theorem LG {s:dG} {S:List bk} {op:List Int} {j k:Int} (hop:∀k ∈ op,0<=k/\k < (s.2.2.2.2.length:Int)):od s S op j k=-1\/(0<=od s S op j k/\od s S op j k < (s.2.2.2.2.length:Int)):=by
 unfold od
 split
 ·exact .inl rfl
 ·split
  ·rename_i i hf
   have hi:=List.mem_range.1 (List.mem_of_find?_eq_some hf)
   exact .inr (hop _ (by rw[cd hi]; exact getElem_mem hi))
  ·exact .inl rfl
theorem Ye {l:List Int} {n i:Nat} (h:i < n) (hn:n<=l.length):ni (l.take n) i=ni l i:=by
 rw[cd (by rw[length_take]; omega),cd J,List.getElem_take]
theorem Y2 {L:List (List Int)} {a b:Int} (hf:0<=a/\a < (L.length:Int)) (hL:∀l ∈ L,∀k ∈ l,0<=k/\k < (L.length:Int)):(Cf L a b).length<=L.length/\∀k ∈ Cf L a b,0<=k/\k < (L.length:Int):=by
 unfold Cf
 split
 ·rename_i i hf2
  have hT:=List.find?_some hf2
  unfold C7 at hT
  rw[Bool.and_eq_true] at hT
  have hi:i < (im L a b i).1.length:=of_decide_eq_true hT.1
  have hb:=IV (to:=b) hf hL i
  have:=hb.len
  exact⟨by have:=(hb.ln i hi).2; omega,hb.el _ (aS (t:=aq) hi)⟩
 ·exact⟨zero_le _,fun k hk=>by cases hk⟩
theorem EN {S:List bk} {L:List (List Int)} {g h:Nat} {p q:DP} (hS:sV S) (hg:g < 4) (hL:L.length=ee S 4) (hLr:∀l ∈ L,∀k ∈ l,0<=k/\k < (L.length:Int)):(yr S L g h p q).length<=L.length/\∀k ∈ yr S L g h p q,0<=k/\k < (L.length:Int):=by
 have m1:=mF S (4 - (g+1)) (g+1)
 rw[show g+1+(4 - (g+1))=4 from J] at m1
 have rr1:=yW hS hg p
 unfold yr
 split
 ·exact⟨zero_le _,fun k hk=>by cases hk⟩
 ·exact Y2 J hLr
theorem Kw {h:Int} {S:List bk} {j:Int} (h1:h=-1\/∃k:Nat,h=k/\k < S.length/\0<=j):h=-1\/(0<=h/\h < (S.length:Int)):=by
 rcases h1 with e|⟨k,e,hk,_⟩
 ·exact .inl e
 ·exact .inr J
theorem Gr (s:dG) (S:List bk) (op:List Int) (L:List (List Int)) (g h:Nat) (p q:DP) (hS:sV S) (hg:g < 4) (hh:h < 4) (hp:bj p=true) (hq:bj q=true) (hL:L.length=ee S 4) (hL6:L.length<=1000000) (hLr:∀l ∈ L,∀k ∈ l,0<=k/\k < (L.length:Int)) (hLl:∀l ∈ L,l.length<=1000000) (hop:∀k ∈ op,0<=k/\k < (s.2.2.2.2.length:Int)) (htb:∀v ∈ s.2.2.2.2,bm v=true) (hol:op.length<=1000) (htl:s.2.2.2.2.length<=1000) (hC:∀x ∈ S,x.2.2.2.2.1.length<=1000000/\x.2.2.2.2.2.1.length<=1000000/\x.2.2.2.2.2.2.1.length<=100000000) (hI:∀i,i < (yr S L g h p q).length->∀st,qn s S op (yr S L g h p q) p i=some st->bj st.1=true/\st.2.length<=900000000) (hA:∀x ∈ S,∀st:DP × List DS,∀t:DP,bj st.1=true->bj t=true->xA (nB x st t).1/\(nB x st t).2.length<=st.2.length+3000000):Fn prog 14 [⟨mc,(s,S,op,L)⟩,⟨bu,((g:Int),p)⟩,⟨bu,((h:Int),q)⟩] false [⟨.slice bu,(Ag s S op (yr S L g h p q) p q).getD []⟩,⟨.bool,(Ag s S op (yr S L g h p q) p q).isSome⟩]:=by
 have c0:=EB s S op L g h p q hS hg hh hp hq hL hL6 hLr hLl
 obtain⟨hrl,hrr⟩:=EN (S:=S) (L:=L) (g:=g) (h:=h) (p:=p) (q:=q) hS hg hL hLr
 have hS4:=hS.four
 generalize yr S L g h p q=rg at *
 have cH:=fun (j:Int) (h:j<=1000000000)=>rP s S op L j h J hS.len
 have cT:=fun (j k:Int) (h1:j<=1000000000) (h2:k<=1000000000)=>HO s S op L j k h1 h2 hS hop htb hol htl
 have hH:=fun j=>y5 S j
 have hT:=fun j k=>LG (S:=S) (j:=j) (k:=k) hop
 have cA:=fun (j:Int) (t:DP) (st:DP × List DS) (h0:0<=ik S j) (h1:bj st.1=true) (h2:bj t=true) (h3:st.2.length<=1000000000) (h4:lM (jf S j) st.1 t=true)=>QH (jf S j) st.1 t st.2 h1 h2 (by
  have:=hH j
  exact (hC _ (aS (t:=aP) J)).1) (by
  have:=hH j
  exact (hC _ (aS (t:=aP) J)).2.1) (by
  have:=hH j
  exact (hC _ (aS (t:=aP) J)).2.2) h3 h4
 have cF:=fun (j:Int) (t:DP) (st:DP × List DS) (h0:0<=ik S j) (h1:bj st.1=true) (h2:bj t=true) (h4:lM (jf S j) st.1 t=false)=>Pc (jf S j) st.1 t st.2 h1 h2 (by
  have:=hH j
  exact (hC _ (aS (t:=aP) J)).1) (by
  have:=hH j
  exact (hC _ (aS (t:=aP) J)).2.1) (by
  have:=hH j
  exact (hC _ (aS (t:=aP) J)).2.2) h4
 have hA2:=fun (j:Int) (t:DP) (st:DP × List DS) (h0:0<=ik S j) (h1:bj st.1=true) (h2:bj t=true)=>hA (jf S j) (by
  have:=hH j
  exact aS (t:=aP) J) st t h1 h2
 have hI0:qn s S op rg p 0=some (p,[]):=rfl
 have hIs:∀i,qn s S op rg p (i+1)=(qn s S op rg p i).bind (Ik s S op (ni rg i) (ni rg (i+1))):=fun _=>rfl
 have hRn:=fun i h hi=>TX (s:=s) (S:=S) (op:=op) (rg:=rg) (p:=p) (q:=q) (i:=i) h hi
 have hR0:rg=[]->Ag s S op rg p q=none:=fun h=>if_pos h
 have hR1:rg ≠ []->Ag s S op rg p q=(qn s S op rg p (rg.length - 1)).bind (Jr S (ni rg (rg.length - 1)) q):=fun h=>if_neg h
 have hSn:∀j k st,(ik S j < 0\/ik S k < 0\/od s S op j k < 0)\/lM (jf S j) st.1 (nE s S op j k)=false->Ik s S op j k st=none:=fun j k st h=>if_pos h
 have hSs:∀j k st,¬ ((ik S j < 0\/ik S k < 0\/od s S op j k < 0)\/lM (jf S j) st.1 (nE s S op j k)=false)->Ik s S op j k st=some ((nB (jf S j) st (nE s S op j k)).1,(nB (jf S j) st (nE s S op j k)).2++(xb (ik S j) (ik S k)).map fun t=>((t,(nB (jf S j) st (nE s S op j k)).1):DS)):=fun j k st h=>if_neg h
 have hEn:∀j st,ik S j < 0\/lM (jf S j) st.1 q=false->Jr S j q st=none:=fun j st h=>if_pos h
 have hEs:∀j st,¬ (ik S j < 0\/lM (jf S j) st.1 q=false)->Jr S j q st=some (nB (jf S j) st q).2:=fun j st h=>if_neg h
 have hLP:∀j k,0<=od s S op j k->bj (nE s S op j k)=true:=fun j k h=>oz (htb _ (aU (i:=(od s S op j k).toNat) (by have:=hT j k; omega)))
 have hLt:∀j k,nE s S op j k=ct (nth (t:=an) s.2.2.2.2 (od s S op j k).toNat):=fun _ _=>rfl
 have cP:=fun v=>lZ v
 have htk:∀i,i < rg.length - 1->ni (rg.take (rg.length - 1)) i=ni rg i:=fun i h=>Ye h J
 have htl2:(rg.take (rg.length - 1)).length=rg.length - 1:=by rw[length_take]; omega
 have htkl:((rg.length:Int) - 1).toNat=rg.length - 1:=J
 have hrs:∀j,jf S j=nth (t:=aP) S (ik S j).toNat:=fun _=>rfl
 have hne:∀i,i < rg.length->0<=ni rg i/\ni rg i < (L.length:Int):=fun i hi=>hrr _ (jM hi)
 generalize hPI:qn s S op rg p=I at *
 generalize hPR:Ag s S op rg p q=R at *
 obtain⟨⟨a1,a2⟩,⟨b1,b2⟩,r,ob,tb⟩:=s
 obtain⟨p1,p2⟩:=p
 obtain⟨q1,q2⟩:=q
 by_cases hr0:rg=[]
 ·rw[hR0 hr0]
  subst hr0
  have z0:decide (((0:Nat):Int)=0)=true:=ae
  refine fe func14 ntmps14 results14 fun hwf=>?_
  refine Sz ?_
  refine cw c0 ?_
  try simp (maxSteps:=9^9) only[go_sem]
  all_goals exact Gz z0
 have hrn:0 < rg.length:=List.length_pos_iff.2 hr0
 have z0:decide ((rg.length:Int)=0)=false:=ak J
 have hR1:=hR1 hr0
 refine fe func14 ntmps14 results14 fun hwf=>?_
 refine Sz ?_
 refine cw c0 ?_
 try simp (maxSteps:=9^9) only[go_sem]
 refine fy z0 htkl ?_
 refine aF.intro _ _ _ (fun y:Nat × (DP × List DS)=>⟨[(3,.ptr 2 0),(5,.ptr 3 0),(8,.sl .int rg),(9,.ptr 0 0),(31,.sl .int (rg.take (rg.length - 1))),(32,.sc (.int .i64 ((rg.length:Int) - 1))),(33,.sc (.int .i64 y.1))],[(0,.box (js ax y.2.1++[.row 1 0])),(1,.row 77 bu 0 false y.2.2),(2,.box (Hv ((a1,a2),(b1,b2),r,ob,tb) S op L)),(3,.box (js bu ((h:Int),(q1,q2))))]⟩) (fun y=>y.1<=rg.length - 1/\I y.1=some y.2) (fun y=>rg.length - 1 - y.1) (0,(p1,p2),[]) ?_ ⟨zero_le _,hI0⟩ ?_
 ·refine Wk.fC 3 6 4 77 bu (by rfl) (by rfl) (by rfl) ?_
  simp only[List.set_cons_succ,List.set_cons_zero]
  exact WZz [(0,3),(1,4),(2,0),(3,2)]
 ·rintro⟨i,st⟩ ⟨hi,hst⟩
  dsimp only at hi hst ⊢
  obtain⟨o1,o2⟩:=hI i J st hst
  have hIi:=hIs i
  rw[hst] at hIi
  change I (i+1)=Ik _ S op (ni rg i) (ni rg (i+1)) st at hIi
  refine Nz ?_
  refine ao ?_ ?_<;>intro hB
  ·have hil:i < rg.length - 1:=J
   have ht:=htk i hil
   have hk1:=hne i J
   have hk2:=hne (i+1) J
   have ei:((i:Int)+1).toNat=i+1:=J
   generalize hj:ni rg i=j at *
   generalize hk:ni rg (i+1)=k at *
   have c1:=cH j J
   have c2:=cH k J
   have c3:=cT j k J J
   have h1:=hH j
   have h2:=hH k
   have h3:=hT j k
   have hSn:=hSn j k st
   have hSs:=hSs j k st
   have hLP:=hLP j k
   have hLt:=hLt j k
   have hrs:=hrs j
   have cA:=cA j (nE ((a1,a2),(b1,b2),r,ob,tb) S op j k) st
   have cF:=cF j (nE ((a1,a2),(b1,b2),r,ob,tb) S op j k) st
   have hA2:=hA2 j (nE ((a1,a2),(b1,b2),r,ob,tb) S op j k) st
   have c4:=cP (nth (t:=an) tb (od ((a1,a2),(b1,b2),r,ob,tb) S op j k).toNat)
   rw[show (nth (t:=an) (((a1,a2),(b1,b2),r,ob,tb):dG).2.2.2.2 (od ((a1,a2),(b1,b2),r,ob,tb) S op j k).toNat)=nth (t:=an) tb (od ((a1,a2),(b1,b2),r,ob,tb) S op j k).toNat from rfl] at hLt
   rw[<-hLt] at c4
   have hRn:=hRn (i+1)
   have e5:nB (jf S j) st (nE ((a1,a2),(b1,b2),r,ob,tb) S op j k)=lY st.1 st.2 ((eL (jf S j) st.1 (nE ((a1,a2),(b1,b2),r,ob,tb) S op j k)).drop 1) ((eL (jf S j) st.1 (nE ((a1,a2),(b1,b2),r,ob,tb) S op j k)).drop 1).length:=rfl
   generalize nE ((a1,a2),(b1,b2),r,ob,tb) S op j k=t at *
   generalize hT3:od ((a1,a2),(b1,b2),r,ob,tb) S op j k=tb3 at *
   generalize hh1:ik S j=g1 at *
   generalize hh2:ik S k=g2 at *
   have h1:=Kw h1
   have h2:=Kw h2
   have h3:tb3=-1\/(0<=tb3/\tb3 < (tb.length:Int)):=h3
   by_cases n1:g1 < 0
   ·have f1:=aj n1
    have hR:=hRn (by rw[hIi]; exact hSn (.inl (.inl n1))) J
    rw[hR]
    refine qk ht ei hk ?_
    refine cw c1 ?_
    refine Cz c2 ?_
    refine cw c3 ?_
    try simp (maxSteps:=9^9) only[go_sem]
    all_goals exact Gz f1
   have f1:=ak n1
   by_cases n2:g2 < 0
   ·have f2:=aj n2
    have hR:=hRn (by rw[hIi]; exact hSn (.inl (.inr (.inl n2)))) J
    rw[hR]
    refine qk ht ei hk ?_
    refine cw c1 ?_
    refine Cz c2 ?_
    refine cw c3 ?_
    try simp (maxSteps:=9^9) only[go_sem]
    all_goals exact CW f1 f2
   have f2:=ak n2
   by_cases n3:tb3 < 0
   ·have f3:=aj n3
    have hR:=hRn (by rw[hIi]; exact hSn (.inl (.inr (.inr n3)))) J
    rw[hR]
    refine qk ht ei hk ?_
    refine cw c1 ?_
    refine Cz c2 ?_
    refine cw c3 ?_
    try simp (maxSteps:=9^9) only[go_sem]
    try simp (maxSteps:=9^9) only[go_sem,f1,f2,f3]
    all_goals exact Ez
   have f3:=ak n3
   have hLP:=hLP J
   cases hsp:lM (jf S j) st.1 t
   ·have hR:=hRn (by rw[hIi]; exact hSn (.inr hsp)) J
    have c5:=cF J o1 hLP hsp
    rw[hrs] at c5
    rw[hR]
    refine qk ht ei hk ?_
    refine cw c1 ?_
    refine Cz c2 ?_
    refine cw c3 ?_
    try simp (maxSteps:=9^9) only[go_sem]
    refine qk f1 f2 f3 ?_
    refine cw (c4.sh) ?_
    refine Sz ?_
    refine aO.ma (c5) ?_
    all_goals exact Fz
   ·have hSs:=hSs (by rintro ((h|h|h)|h)<;>first|omega|(rw[hsp] at h; cases h))
    have c5:=cA J o1 hLP J hsp
    obtain⟨a5,a6⟩:=hA2 J o1 hLP
    rw[<-e5] at c5
    rw[hrs] at c5 a5 a6 hSs
    have c6:=Uv g1 g2 (nB (nth (t:=aP) S g1.toNat) st t).1 (nB (nth (t:=aP) S g1.toNat) st t).2 a5 J J J
    rw[hSs] at hIi
    generalize nB (nth (t:=aP) S g1.toNat) st t=st2 at *
    refine qk ht ei hk ?_
    refine cw c1 ?_
    refine Cz c2 ?_
    refine cw c3 ?_
    try simp (maxSteps:=9^9) only[go_sem]
    refine qk f1 f2 f3 ?_
    refine cw (c4.sh) ?_
    refine Sz ?_
    refine aO.ma (c5) ?_
    refine Sz ?_
    refine aO.ma (c6) ?_
    refine Sz ?_
    refine az.mk (i+1,(st2.1,st2.2++(xb g1 g2).map fun t=>((t,st2.1):DS))) ?_ ⟨J,hIi⟩ (by dsimp only; omega)
    dsimp only
    exact WK
  ·obtain rfl:i=rg.length - 1:=J
   rw[hst] at hR1
   change R=Jr S (ni rg (rg.length - 1)) (q1,q2) st at hR1
   have hk1:=hne (rg.length - 1) J
   generalize hj:ni rg (rg.length - 1)=j at *
   have c1:=cH j J
   have h1:=hH j
   have hEn:=hEn j st
   have hEs:=hEs j st
   have hrs:=hrs j
   have cA:=cA j (q1,q2) st
   have cF:=cF j (q1,q2) st
   have e5:nB (jf S j) st (q1,q2)=lY st.1 st.2 ((eL (jf S j) st.1 (q1,q2)).drop 1) ((eL (jf S j) st.1 (q1,q2)).drop 1).length:=rfl
   generalize hh1:ik S j=g1 at *
   have h1:=Kw h1
   by_cases n1:g1 < 0
   ·have f1:=aj n1
    rw[hR1,hEn (.inl n1)]
    refine fy htkl hj ?_
    refine cw c1 ?_
    try simp (maxSteps:=9^9) only[go_sem]
    all_goals exact Gz f1
   have f1:=ak n1
   cases hsp:lM (jf S j) st.1 (q1,q2)
   ·have c5:=cF J o1 hq hsp
    rw[hrs] at c5
    rw[hR1,hEn (.inr hsp)]
    refine fy htkl hj ?_
    refine cw c1 ?_
    try simp (maxSteps:=9^9) only[go_sem]
    refine Tz f1 ?_
    refine aO.ma (c5) ?_
    all_goals exact Fz
   ·have c5:=cA J o1 hq J hsp
    rw[<-e5] at c5
    have hEs:=hEs (by rintro (h|h)<;>first|omega|(rw[hsp] at h; cases h))
    rw[hrs] at c5 hEs
    rw[hR1,hEs]
    generalize nB (nth (t:=aP) S g1.toNat) st (q1,q2)=st2 at *
    refine fy htkl hj ?_
    refine cw c1 ?_
    try simp (maxSteps:=9^9) only[go_sem]
    refine Tz f1 ?_
    refine aO.ma (c5) ?_
    all_goals exact Fz
theorem Hn {e:TypeId} {v v':Nat} (hv:v < v'):∀{L L':List (List Int)} {k:Nat},L.length=L'.length->Ce (iq e k v L) (iq e k v' L')
 | [],[],_,_=>trivial
 | _ :: L,_ :: L',k,h=>⟨rfl,⟨hv,fun _=>rfl⟩,Hn hv (by simpa using h)⟩
 | [],_ :: _,_,h=>by simp at h
 | _ :: _,[],_,h=>by simp at h
theorem YL {x:Option Nat} {rc rc':List AV} {e:TypeId} {v v':Nat} (hv:v < v') {L L':List (List Int)} (h:L.length=L'.length):Ce (bB x rc e v L) (bB x rc' e v' L'):=by
 refine⟨rfl,?_,rfl,trivial,Hn hv h⟩
 cases x
 ·trivial
 ·rfl
theorem FX {lm:Nat->Option ay} {ba:List Nat} {e:TypeId} {v:Nat}:∀{L:List (List Int)} {k:Nat},(∀i (h:i < L.length),lm (i+k)=some (.row e .int v true L[i]))->jJ lm ba (iq e k v L)
 | [],_,_=>trivial
 | l :: L,k,h=>by
  refine⟨?_,FX fun i hi=>?_⟩
  ·have h0:=h 0 ah
   rw[zero_add] at h0
   show jT lm ba k (.row e .int v true l)
   unfold jT
   simp only[h0]
   exact⟨trivial,trivial,rfl,fun _=>⟨trivial,rfl⟩⟩
  ·have:=h (i+1) (by simpa using hi)
   rw[show i+(k+1)=i+1+k from J,this]; rfl
theorem J9 {ba:List Nat} {v:Nat}:∀{L:List (List Int)} {k:Nat},(∀i,i < L.length->i+k ∈ ba)->aA (Et ba) (fu k v L) (fu k v L)
 | [],_,_=>trivial
 | _ :: L,k,h=>⟨⟨rfl,by have:=h 0 ah; rwa [zero_add] at this⟩,J9 fun i hi=>by have:=h (i+1) (by simpa using hi); rwa [show i+(k+1)=i+1+k from J]⟩
theorem w6 {ba:List Nat} {n:Nat} (h1:1 ∈ ba):∀{rc:List AV},(∀v ∈ rc,sZ n v)->aA (Et ba) rc rc
 | [],_=>trivial
 | v :: rc,h=>by
  refine⟨?_,w6 h1 fun u hu=>h u (mem_cons_of_mem _ hu)⟩
  have hv:=h v mem_cons_self
  cases v with
  | sc x=>rfl
  | sl t l=>exact .inl rfl
  | row k m=>obtain⟨rfl,rfl⟩:=hv; exact⟨rfl,h1⟩
  | _=>exact hv.elim
theorem U7 {lm:Nat->Option ay} {x:Option Nat} {rc:List AV} {e:TypeId} {v n:Nat} {L:List (List Int)} (hrc:∀u ∈ rc,sZ n u) (h0:lm 0=some (.bx x rc)) (h1:lm 1=some (.box (fu 2 v L))) (hr:∀i (h:i < L.length),lm (i+2)=some (.row e .int v true L[i])):jJ lm ((bB x rc e v L).map (·.1)) (bB x rc e v L):=by
 have hrng:(bB x rc e v L).map (·.1)=range' 0 (L.length+2):=rG
 rw[hrng]
 have m:∀j,j < L.length+2->j ∈ range' 0 (L.length+2):=fun j hj=>by rw[List.mem_range'_1]; omega
 refine⟨?_,?_,FX hr⟩
 ·show jT lm _ 0 (.bx x rc)
  cases x with
  | none=>unfold jT; simp only[h0]; exact w6 (m 1 J) hrc
  | some y=>unfold jT; simp only[h0]; exact⟨trivial,w6 (m 1 J) hrc⟩
 ·show jT lm _ 1 (.bx none (fu 2 v L))
  unfold jT
  simp only[h1]
  exact J9 fun i hi=>m _ J
theorem UZ {lm:Nat->Option ay} {K:bb->Prop} {x:Option Nat} {rc:List AV} {e:TypeId} {n:Nat} {L L':List (List Int)} {a b:Int} (hrc:∀u ∈ rc,sZ n u) (h0:lm 0=some (.bx x rc)) (h1:lm 1=some (.box (fu 2 0 L))) (hr:∀i (h:i < L.length),lm (i+2)=some (.row e .int 0 true L[i])) (hl:L.length=L'.length)
  (hK:K ⟨.dY [],bB x rc e 1 L',range' 0 (L.length+2)⟩):N6 lm K [.ptr 0 0,.sc (.int .i64 a),.sc (.int .i64 b)] [.ptr 0 0,.sc (.int .i64 a),.sc (.int .i64 b)] (bB x rc e 0 L) (.dY []) (bB x rc e 1 L'):=by
 refine⟨YL J hl,⟨⟨rfl,?_⟩,rfl,rfl,trivial⟩,U7 hrc h0 h1 hr,?_⟩
 ·rw[rG,List.mem_range'_1]; omega
 ·show K ⟨.dY [],bB x rc e 1 L'++[],(bB x rc e 0 L).map (·.1)++[]⟩
  rw[append_nil,append_nil,rG]
  exact hK
theorem Sx {ops:List Oper} {tr:Tr} {t t':List Nat × List Nat} (h:mH ops (tr++[t])=true) (hm:((List.range tr.length).all fun i=>((ml ops).getD tr.length 0).testBit i)=true):mH ops (tr++[t'])=true:=by
 unfold mH at h ⊢
 rw[Bool.and_eq_true] at h ⊢
 refine⟨h.1,?_⟩
 have key:∀{s:List Nat × List Nat} {o:Oper} {u:List Nat × List Nat} {k:Nat},(⟨⟨o,u⟩,k⟩:(Oper × (List Nat × List Nat)) × Nat) ∈ (ops.zip (tr++[s])).zipIdx->k < tr.length\/k=tr.length:=by
  intro s o u k hk
  have h1:=List.mem_zipIdx hk
  have:k < (ops.zip (tr++[s])).length:=by simpa using h1.2.1
  rw[List.length_zip,length_append,List.length_singleton] at this
  omega
 have same:∀{s s':List Nat × List Nat} {o:Oper} {u:List Nat × List Nat} {k:Nat},(⟨⟨o,u⟩,k⟩:(Oper × (List Nat × List Nat)) × Nat) ∈ (ops.zip (tr++[s])).zipIdx->k < tr.length->(⟨⟨o,u⟩,k⟩:(Oper × (List Nat × List Nat)) × Nat) ∈ (ops.zip (tr++[s'])).zipIdx:=by
  intro s s' o u k hk hlt
  rw[List.mem_zipIdx_iff_getElem?] at hk ⊢
  rw[List.getElem?_zip_eq_some] at hk ⊢
  refine⟨hk.1,?_⟩
  have:=hk.2
  rw[List.getElem?_append_left hlt] at this ⊢
  exact this
 have hall:=all_eq_true.1 h.2
 rw[all_eq_true]
 rintro⟨⟨o,u⟩,k⟩ hy
 rw[all_eq_true]
 rintro⟨⟨o2,u2⟩,k2⟩ hx
 rcases key hy with hk|hk
 ·by_cases hlt:k2 < k
  ·have:=all_eq_true.1 (hall _ (same (s':=t) hy hk)) _ (same (s':=t) hx J)
   exact this
  ·simp only[hlt,decide_false,Bool.not_false,Bool.true_or]
 ·by_cases hlt:k2 < k
  ·have hb:=all_eq_true.1 hm k2 (List.mem_range.2 J)
   subst hk
   simp only[hb,Bool.or_true]
  ·simp only[hlt,decide_false,Bool.not_false,Bool.true_or]
theorem MX {σm τm:Nat->Option ay} {ρ:Nat->Nat} {ba:List Nat}:∀{A B:Mm},sy σm τm ρ ba A->sy σm τm ρ ba B->sy σm τm ρ ba (A++B)
 | [],_,_,h=>h
 | _ :: A,_,⟨h1,h2⟩,h=>⟨h1,MX h2 h⟩
theorem re {σ:St} {T:Tm} {B:Mm} {x:Option Nat} {rc:List AV} {e:TypeId} {ver n:Nat} {cs:List AV} {L:List (List Int)} (hrc:∀v ∈ rc,sZ n v) (hBk:∀p ∈ B,L.length+2<=p.1) (hBn:(B.map (·.1)).Nodup)
  (h0:look σ.mem 0=some (.bx x rc)) (h1:look σ.mem 1=some (.box cs)) (hl:cs.length=L.length)
  (hc:∀i (h:i < L.length),∃v,cs[i]? = some (.row (i+2) v)/\look σ.mem (i+2)=some (.row e .int v true L[i]))
  (hT:∀ba,NS (look σ.mem) (look (B++bB x rc e ver L)) id ba σ.tmps T) (hB:∀ba,sy (look σ.mem) (look (B++bB x rc e ver L)) id ba B):Wk σ ⟨T,B++bB x rc e ver L⟩:=by
 have hlk:∀k,k < L.length+2->look (B++bB x rc e ver L) k=look (bB x rc e ver L) k:=by
  intro k hk
  have:∀{B:Mm},(∀p ∈ B,L.length+2<=p.1)->look (B++bB x rc e ver L) k=look (bB x rc e ver L) k:=by
   intro B
   induction B with
   | nil=>intro _; rfl
   | cons p B ih =>
    intro h
    obtain⟨j,C⟩:=p
    have:=h _ mem_cons_self
    rw[List.cons_append,aG _ _ (by dsimp only at this; omega)]
    exact ih fun q hq=>h q (mem_cons_of_mem _ hq)
  exact this hBk
 have hρ:iA []=id:=rfl
 refine⟨σ,.refl σ,[],?_,?_,?_⟩
 ·rw[show (fun p:Nat × ay=>iA [] p.1)=(fun p=>p.1) from rfl,List.map_append,rG,List.nodup_append]
  refine⟨hBn,List.nodup_range',fun a ha b hb=>?_⟩
  obtain⟨p,hp,rfl⟩:=mem_map.1 ha
  have:=hBk p hp
  rw[List.mem_range'_1] at hb
  omega
 ·exact hT _
 ·refine MX (hB _) ?_
  rw[hρ]
  refine⟨?_,?_,A3 fun i hi=>⟨_,(hc i hi).choose_spec.2⟩⟩
  ·show iS _ _ _ _ 0 (.bx x rc)
   unfold iS
   simp only[id,h0]
   refine⟨trivial,?_⟩
   have:∀{cs:List AV} {ba:List Nat},(∀v ∈ cs,sZ n v)->aA (mW (look σ.mem) (look (B++bB x rc e ver L)) id ba) cs cs:=by
    intro cs ba
    induction cs with
    | nil=>intro _; trivial
    | cons v cs ih =>
     intro h
     refine⟨?_,ih fun u hu=>h u (mem_cons_of_mem _ hu)⟩
     have hv:=h v mem_cons_self
     cases v with
     | sc x=>rfl
     | sl t l=>exact .inl ⟨rfl,fun k hk=>by cases hk⟩
     | row k m =>
      obtain⟨rfl,rfl⟩:=hv
      unfold mW
      simp only[hlk 1 J,vo]
      exact⟨rfl,trivial⟩
     | _=>exact hv.elim
   exact this hrc
  ·show iS _ _ _ _ 1 (.bx none (fu 2 ver L))
   unfold iS
   simp only[id,h1]
   exact⟨trivial,Ig hl hc fun i hi=>by rw[hlk _ J,CC hi]⟩
theorem Qu {τ:St} {e:TypeId} {n:Nat}:∀(d m:Nat) (σ:St) (cs:List AV),m+d=n->cs.length=n->(∀i,i < m->cs[i]? = some (.row (i+2) 0))->(∀i,m<=i->i < n->cs[i]? = some (.sc (.slice none 0 0)))->look σ.mem 1=some (.box cs)->(∀i,i < m->look σ.mem (i+2)=some (.row e .int 0 true []))->(∀i,m<=i->look σ.mem (i+2)=none) →
  (∀(σ':St) (cs':List AV),σ'.tmps=σ.tmps->look σ'.mem 0=look σ.mem 0->look σ'.mem 1=some (.box cs')->cs'.length=n->(∀i,i < n->cs'[i]? = some (.row (i+2) 0)/\look σ'.mem (i+2)=some (.row e .int 0 true []))->Wk σ' τ)->Wk σ τ
 | 0,m,σ,cs,hm,hl,h1,_,h3,h4,_,K=>K σ cs rfl rfl h3 hl fun i hi=>⟨h1 i J,h4 i J⟩
 | d+1,m,σ,cs,hm,hl,h1,h2,h3,h4,h5,K=>by
  refine Wk.fC 1 m (m+2) e .int h3 (h2 m (le_refl _) J) (h5 m (le_refl _)) ?_
  refine Qu d (m+1) _ (cs.set m (.row (m+2) 0)) J (by rw[length_set]; exact hl) (fun i hi=>?_) (fun i hi hn=>?_) (aD ..) (fun i hi=>?_) (fun i hi=>?_) fun σ' cs' k1 k2 k3 k4 k5=>K σ' cs' k1 (k2.trans ?_) k3 k4 k5
  ·rw[getElem?_set]
   by_cases e:m=i
   ·subst e; rw[if_pos rfl,if_pos J]
   ·rw[if_neg e]; exact h1 i J
  ·rw[getElem?_set,if_neg J]; exact h2 i J hn
  ·show look ((1,_) :: (m+2,_) :: σ.mem) (i+2)=_
   rw[aG _ _ J]
   by_cases e:i=m
   ·subst e; exact aD ..
   ·rw[aG _ _ J]; exact h4 i J
  ·show look ((1,_) :: (m+2,_) :: σ.mem) (i+2)=_
   rw[aG _ _ J,aG _ _ J]; exact h5 i J
  ·show look ((1,_) :: (m+2,_) :: σ.mem) 0=_
   rw[aG _ _ J,aG _ _ J]
theorem MG {β:Type} {P:Nat->β->Prop}:∀(n:Nat),(∀i,i < n->∃f,P i f)->∃fs:List β,fs.length=n/\∀i,i < n->∃f,fs[i]? = some f/\P i f
 | 0,_=>⟨[],rfl,fun i hi=>J⟩
 | n+1,h=>by
  obtain⟨fs,h1,h2⟩:=MG n fun i hi=>h i J
  obtain⟨f,hf⟩:=h n J
  refine⟨fs++[f],by rw[length_append,h1]; rfl,fun i hi=>?_⟩
  by_cases e:i=n
  ·subst e; exact⟨f,by rw[List.getElem?_append_right J,h1,Nat.sub_self]; rfl,hf⟩
  ·obtain⟨g,hg,hp⟩:=h2 i J
   exact⟨g,by rw[List.getElem?_append_left J]; exact hg,hp⟩
theorem Fl {R R':AV->Value->Prop} {x y:AV}:∀{D:List AV} {us:List Value},(∀v ∈ D,∀u,R v u->R' v u)->(∀u,R x u->R' y u)->aA R (D++[x]) us->aA R' (D++[y]) us
 | [],[u],_,h2,⟨h,_⟩=>⟨h2 u h,trivial⟩
 | [],[],_,_,h=>h.elim
 | [],_ :: _ :: _,_,_,h=>h.2.elim
 | v :: D,u :: us,h1,h2,⟨h3,h4⟩=>⟨h1 v mem_cons_self u h3,Fl (fun v hv=>h1 v (mem_cons_of_mem _ hv)) h2 h4⟩
 | _ :: _,[],_,_,h=>h.elim
def kf:AV->Prop
 | .sc _=>True
 | .sl _ _=>True
 | _=>False
theorem Ud {c:Cx} {σ:St} {Γ:aC} {a:Act} {w:World} (hs:aH c σ Γ a w) {b n:Nat} {D cs:List AV} {e:TypeId} {L:List (List Int)} (hD:∀v ∈ D,kf v) (h0:look σ.mem 0=some (.bx (some b) (D++[.row 1 n]))) (h1:look σ.mem 1=some (.box cs)) (hl:cs.length=L.length) (hn:n=L.length)
  (hc:∀i (h:i < L.length),∃v,cs[i]? = some (.row (i+2) v)/\look σ.mem (i+2)=some (.row e .int v true L[i])):aH c ⟨[],[(0,.bx (some b) (D++[.sl (.slice .int) L]))]⟩ Γ a w:=by
 subst hn
 have hmut:∀{g:Nat},iB [(0,.bx (some b) (D++[.sl (.slice .int) L]))] Γ g->g=b:=by
  rintro g ⟨k,B,hk,hm⟩
  simp only[look] at hk
  split at hk
  ·injection hk with hk; subst hk; exact hm
  ·cases hk
 have hgd:∀{g:Nat},Gd c σ.mem Γ g->Gd c [(0,.bx (some b) (D++[.sl (.slice .int) L]))] Γ g:=fun {g} hg=>⟨hg.1,fun hm=>by
  have:=hmut hm; subst this
  exact hg.2 ⟨0,_,h0,rfl⟩⟩
 have hown:∀{g k:Nat} {B:ay},k ≠ 0->look σ.mem k=some B->B.mut Γ k g->g ≠ b:=fun {g k B} hk hB hm e=>by
  subst e
  exact hk (hs.inj _ _ _ _ g hB h0 hm rfl)
 refine⟨(fun d v hd=>by cases hd),fun k B hk=>?_,fun k k' B B' g hk hk' _ _=>?_,fun k k' B B' g hk hk' hne hb=>?_,hs.below,hs.hb,hs.defs,hs.sz⟩
 ·simp only[look] at hk
  split at hk
  ·rename_i hk0
   subst hk0
   injection hk with hk; subst hk
   obtain⟨hb,us,e0,hg,hcur⟩:=hs.mm 0 _ h0
   refine⟨hb,us,e0,hg,Fl (fun v hv u hu=>?_) (fun u hu=>?_) hcur⟩
   ·have:=hD v hv
    cases v with
    | sc x=>exact hu
    | sl t l=>obtain⟨fp,hr,hf⟩:=hu; exact⟨fp,hr,fun g hg=>hgd (hf g hg)⟩
    | _=>exact this.elim
   ·obtain⟨_,B,hB,hh⟩:=hu
    rw[h1] at hB; injection hB with hB; subst hB
    obtain⟨rfl,hmx⟩:=hh
    obtain⟨hb1,us1,e1,hg1,hc1⟩:=hs.mm 1 _ h1
    have hbase:c.base<=Γ.loc 1 none:=hb1
    obtain⟨fps,hfl,hfp⟩:=MG (P:=fun i f=>∃(hi:i < L.length) (u:Value),us1.toList[i]? = some u/\(Rp.slice Ty.int.rp Ty.int.pos).rep w [u] L[i] f/\∀g ∈ f,Gd c [(0,.bx (some b) (D++[.sl (.slice .int) L]))] Γ g) L.length fun i hi=>by
     obtain⟨v,q1,q2⟩:=hc i hi
     obtain⟨u,hu,hr⟩:=hc1.get q1
     obtain⟨_,B,hB,hh⟩:=hr
     rw[q2] at hB; injection hB with hB; subst hB
     have hu2:=hh.2 rfl
     obtain⟨fps,hgr,hf,hgdr,_⟩:=hs.mm _ _ q2
     obtain⟨fp,hrep,hfp⟩:=sE hgr
     refine⟨fp,hi,u,hu,hu2 ▸ hrep,fun g hg=>?_⟩
     rcases hfp with rfl|⟨g2,hgo,rfl,hbg,_⟩
     ·cases hg
     ·rcases mem_cons.1 hg with rfl|hg
      ·exact⟨hbg.gd,fun hm=>hown J q2 hgo (hmut hm)⟩
      ·exact hgd (hgdr g (hf ▸ hg))
    by_cases hnil:L=[]
    ·subst hnil
     exact⟨[],⟨_,_,rfl,le_refl _,hmx,.inl ⟨rfl,rfl⟩⟩,fun g hg=>by cases hg⟩
    ·refine⟨Γ.loc 1 none :: fps.flatten,⟨_,_,rfl,le_refl _,hmx,.inr ⟨Γ.loc 1 none,0,fps,hnil,rfl,rfl,hfl,fun i x hx=>?_⟩⟩,fun g hg=>?_⟩
     ·obtain⟨hi,hx⟩:=List.getElem?_eq_some_iff.1 hx
      subst hx
      obtain⟨f,q1,_,u,q2,q3,_⟩:=hfp i hi
      refine⟨f,[u],q1,q3,fun j v hj=>?_⟩
      have hj0:j=0:=by have:=(List.getElem?_eq_some_iff.1 hj).1; simp at this; omega
      subst hj0
      injection hj with hj; subst hj
      rw[show (0+i * (Ty.slice Ty.int).rp.size+0)=i by show 0+i * 1+0=i; omega,cell_of_row w _ i us1 e1 (0,0) hg1,<-Array.getElem?_toList]
      exact q2
     ·rcases mem_cons.1 hg with rfl|hg
      ·exact⟨.inr hbase,fun hm=>hown ae h1 rfl (hmut hm)⟩
      ·obtain⟨f,hf,hgf⟩:=List.mem_flatten.1 hg
       obtain⟨i,hi,rfl⟩:=List.getElem_of_mem hf
       obtain⟨f,q1,_,u,_,_,q4⟩:=hfp i J
       rw[List.getElem?_eq_getElem hi] at q1; injection q1 with q1
       exact q4 g (q1 ▸ hgf)
  ·cases hk
 ·simp only[look] at hk hk'
  split at hk
  ·split at hk'
   ·rename_i h1 h2; exact h1.trans h2.symm
   ·cases hk'
  ·cases hk
 ·simp only[look] at hk hk'
  split at hk
  ·split at hk'
   ·rename_i h1 h2; exact absurd (h1.trans h2.symm) hne
   ·cases hk'
  ·cases hk
theorem Yg {σ:St} {b n:Nat} {D cs:List AV} {e:TypeId} {L:List (List Int)} (hD:∀v ∈ D,kf v) (h0:look σ.mem 0=some (.bx (some b) (D++[.row 1 n]))) (h1:look σ.mem 1=some (.box cs)) (hl:cs.length=L.length) (hn:n=L.length)
  (hc:∀i (h:i < L.length),∃v,cs[i]? = some (.row (i+2) v)/\look σ.mem (i+2)=some (.row e .int v true L[i])):Wk σ ⟨[],[(0,.bx (some b) (D++[.sl (.slice .int) L]))]⟩:=by
 refine⟨_,.conv (fun hs=>⟨_,Ud hs hD h0 h1 hl hn hc⟩) (.refl _),[],?_,trivial,?_,trivial⟩
 ·exact nodup_cons.2 ⟨(fun h=>by cases h),nodup_nil⟩
 ·have hself:∀{σm τm:Nat->Option ay} {ρ:Nat->Nat} {ba:List Nat} {rc:List AV},(∀v ∈ rc,kf v)->aA (mW σm τm ρ ba) rc rc:=by
   intro σm τm ρ ba rc
   induction rc with
   | nil=>intro _; trivial
   | cons v rc ih =>
    intro h
    refine⟨?_,ih fun u hu=>h u (mem_cons_of_mem _ hu)⟩
    have hv:=h v mem_cons_self
    cases v with
    | sc x=>rfl
    | sl t l=>exact .inl ⟨rfl,fun k hk=>by cases hk⟩
    | _=>exact hv.elim
  show iS _ _ _ _ 0 (.bx (some b) (D++[.sl (.slice .int) L]))
  unfold iS
  show (match look [(0,ay.bx (some b) (D++[.sl (.slice .int) L]))] 0 with|some (.bx x0 cs0)=>x0=some b/\aA _ cs0 (D++[.sl (.slice .int) L])|_=>False)
  exact⟨rfl,hself fun v hv=>by
   rcases mem_append.1 hv with hv|hv
   ·exact hD v hv
   ·rw[mem_singleton.1 hv]; trivial⟩
theorem Mq {k b g:Nat} {cs:List AV} {Γ:aC}:iB [(k,.bx (some b) cs)] Γ g ↔ g=b:=by
 constructor
 ·rintro⟨j,B,hj,hm⟩
  simp only[look] at hj
  split at hj
  ·injection hj with hj; subst hj; exact hm
  ·cases hj
 ·rintro rfl
  exact⟨k,_,aD ..,rfl⟩
theorem UX {c:Cx} {k k' b:Nat} {cs cs1:List AV} {Γ Γ1:aC} {w:World} {v:AV} {u:Value} (hv:kf v) (h:aQ c [(k,.bx (some b) cs)] Γ w v u):aQ c [(k',.bx (some b) cs1)] Γ1 w v u:=by
 cases v with
 | sc x=>exact h
 | sl t l =>
  obtain⟨fp,hr,hg⟩:=h
  exact⟨fp,hr,fun g hgf=>⟨(hg g hgf).1,fun hm=>(hg g hgf).2 (Mq.2 (Mq.1 hm))⟩⟩
 | _=>exact hv.elim
theorem Nf {c:Cx} {k k' b:Nat} {cs:List AV} {Γ Γ1:aC} {a:Act} {w:World} (hcs:∀v ∈ cs,kf v) (hs:aH c ⟨[],[(k,.bx (some b) cs)]⟩ Γ a w):aH c ⟨[],[(k',.bx (some b) cs)]⟩ Γ1 a w:=by
 refine⟨(fun d v hd=>by cases hd),fun j B hj=>?_,fun j j' B B' g hj hj' _ _=>?_,fun j j' B B' g hj hj' hne _=>?_,hs.below,hs.hb,hs.defs,hs.sz⟩
 ·simp only[look] at hj
  split at hj
  ·injection hj with hj; subst hj
   obtain⟨hb,us,e,hg,hc⟩:=hs.mm k _ (aD ..)
   refine⟨hb,us,e,hg,?_⟩
   have:∀{ds:List AV} {us:List Value},(∀v ∈ ds,kf v)->aA (aQ c [(k,.bx (some b) cs)] Γ w) ds us->aA (aQ c [(k',.bx (some b) cs)] Γ1 w) ds us:=by
    intro ds
    induction ds with
    | nil=>intro us _ h; cases us with|nil=>trivial|cons _ _=>exact h.elim
    | cons v ds ih =>
     intro us hd h
     cases us with
     | nil=>exact h.elim
     | cons u us=>exact⟨UX (hd v mem_cons_self) h.1,ih (fun x hx=>hd x (mem_cons_of_mem _ hx)) h.2⟩
   exact this hcs hc
  ·cases hj
 ·simp only[look] at hj hj'
  split at hj
  ·split at hj'
   ·rename_i h1 h2; exact h1.trans h2.symm
   ·cases hj'
  ·cases hj
 ·simp only[look] at hj hj'
  split at hj
  ·split at hj'
   ·rename_i h1 h2; exact absurd (h1.trans h2.symm) hne
   ·cases hj'
  ·cases hj
theorem n0.ac7 {P:Program} {f:FuncId} {cs cs':List AV} (hcs:∀v ∈ cs,kf v) (hcs':∀v ∈ cs',kf v) (h:n0 P f [.ptr 0 0] [(0,.box cs)] (.dY []) [(0,.box cs')]) (k:Nat):n0 P f [.ptr k 0] [(k,.box cs)] (.dY []) [(k,.box cs')]:=by
 refine⟨h.1,h.2.1,fun c Γ a w us hcg hb hw hs hv=>?_⟩
 let Γ0:aC:=⟨fun _=>Γ.β k,Γ.hd,Γ.fp⟩
 have hs0:aH c ⟨[],bw Γ0.β [(0,.box cs)]⟩ Γ0 a w:=Nf (k:=k) (Γ:=Γ) hcs hs
 match us,hv with
 | [u],⟨hv,_⟩ =>
  obtain⟨x,ds,hk,rfl⟩:=hv
  have hx:x=some (Γ.β k):=by
   have hk:look [(k,ay.bx (some (Γ.β k)) cs)] k=some (.bx x ds):=hk
   rw[aD] at hk
   injection hk with hk; injection hk with hk _
   exact hk.symm
  subst hx
  refine (h.2.2 c Γ0 a w [.pointer (some ⟨Γ.loc k (some (Γ.β k)),0,none⟩)] hcg hb hw hs0 ⟨⟨some (Γ.β k),cs,aD ..,rfl⟩,trivial⟩).mono ?_
  rintro e w' ⟨u',Γ',a',n,he,hs',hr⟩
  obtain⟨us,e1,e2⟩:=hr
  match us,e2 with
  | [],_=>exact⟨u',Γ',a',n,he,Nf (k:=0) (Γ:=Γ') hcs' hs',[],e1,trivial⟩
theorem C8 {σm τm:Nat->Option ay} {ρ:Nat->Nat} {ba:List Nat}:∀{rc:List AV},(∀v ∈ rc,kf v)->aA (mW σm τm ρ ba) rc rc
 | [],_=>trivial
 | v :: rc,h=>by
  refine⟨?_,C8 fun u hu=>h u (mem_cons_of_mem _ hu)⟩
  have hv:=h v mem_cons_self
  cases v with
  | sc x=>rfl
  | sl t l=>exact .inl ⟨rfl,fun k hk=>by cases hk⟩
  | _=>exact hv.elim
theorem MO {σm τm:Nat->Option ay} {ba:List Nat} {k:Nat} {x:Option Nat} {cs:List AV} (hcs:∀v ∈ cs,kf v) (h:σm k=some (.bx x cs)):sy σm τm id ba [(k,.bx x cs)]:=by
 refine⟨?_,trivial⟩
 unfold iS
 simp only[id,h]
 exact⟨trivial,C8 hcs⟩
def Iy (s:dG) (S:List bk) (op:List Int):List AV:=[.sc (.int .i64 s.1.1),.sc (.int .i64 s.1.2),.sc (.int .i64 s.2.1.1),.sc (.int .i64 s.2.1.2),.sl an s.2.2.1,.sl (.slice an) s.2.2.2.1,.sl an s.2.2.2.2,.sl aP S,.sl .int op]
theorem yc {s:dG} {S:List bk} {op:List Int}:∀v ∈ Iy s S op,kf v:=by
 intro v hv
 simp only[Iy,mem_cons,mem_nil_iff,or_false] at hv
 rcases hv with rfl|rfl|rfl|rfl|rfl|rfl|rfl|rfl|rfl<;>trivial
theorem Fq {p:DP}:∀v ∈ js ax p,kf v:=by
 intro v hv
 simp only[js,Ty.isAgg,List.cons_append,List.nil_append,mem_cons,mem_nil_iff,or_false] at hv
 rcases hv with rfl|rfl|rfl|rfl|rfl|rfl<;>trivial
def qc (L:List (List Int)):Nat->List (List Int)
 | 0=>L
 | i+1=>(qc L i).set i (mw (nth (t:=aq) (qc L i) i))
theorem Ed {L:List (List Int)}:∀i,(qc L i).length=L.length
 | 0=>rfl
 | i+1=>by rw[qc,length_set,Ed i]
theorem yB {L:List (List Int)}:∀(i j:Nat),(qc L i)[j]? = if j < i then (L[j]?).map mw else L[j]?
 | 0,j=>by rw[if_neg J]; rfl
 | i+1,j=>by
  rw[qc,getElem?_set]
  by_cases e:i=j
  ·subst e
   have e2:nth (t:=aq) (qc L i) i=(L[i]?).getD []:=by
    show ((qc L i).getD i _)=_
    rw[List.getD_eq_getElem?_getD,yB i i,if_neg J]; rfl
   rw[if_pos rfl,e2,Ed,if_pos (show i < i+1 from J)]
   by_cases h:i < L.length
   ·rw[if_pos h,List.getElem?_eq_getElem h]; rfl
   ·rw[if_neg h,List.getElem?_eq_none J]; rfl
  ·rw[if_neg e,yB i j]
   by_cases h:j < i
   ·rw[if_pos h,if_pos J]
   ·rw[if_neg h,if_neg J]
theorem XC {L:List (List Int)}:qc L L.length=L.map mw:=by
 refine List.ext_getElem? fun j=>?_
 rw[yB,List.getElem?_map]
 by_cases h:j < L.length
 ·rw[if_pos h]
 ·rw[if_neg h,List.getElem?_eq_none J]; rfl
theorem O2 (s:dG) (S:List bk) (op:List Int) (hS:sV S) (hop:∀k ∈ op,0<=k/\k < (s.2.2.2.2.length:Int)) (htb:∀v ∈ s.2.2.2.2,bm v=true) (hol:op.length<=1000):n0 prog 49 [.ptr 0 0] [(0,.box (Iy s S op++[.sc (.slice none 0 0)]))] (.dY []) [(0,.box (Iy s S op++[.sl (.slice .int) (Ih S s.2.2.2.2 op)]))]:=by
 have c1:=Eo s S op (by rw[hS.four]; omega) hS.len
 have hfr:=yp hS.len S.length (le_refl _)
 have hS4:=hS.four
 have hlenK:=fun q=>tS (S:=S) (tb:=s.2.2.2.2) (op:=op) q
 have hrowK:=fun q=>Dq hS (tb:=s.2.2.2.2) (op:=op) q
 have hK0:∀i (h:i < (tL S s.2.2.2.2 op 0).length),(tL S s.2.2.2.2 op 0)[i]=[]:=fun i h=>List.getElem_replicate ..
 have hN4:ee S 4=ee S S.length:=by rw[hS4]
 generalize hN:ee S S.length=n at *
 unfold Iy
 refine dq bK bA func49 rfl rfl _ ntmps49 _ results49 ah (by first|exact .inl rfl|exact .inr ⟨_,rfl⟩) fun β=>?_
 refine Sz ?_
 refine aO.h 0 ((fun _=>c1)) ?_
 try simp (maxSteps:=9^9) only[go_sem]
 repeat refine AI ?_
 refine Nz ?_
 refine aF.intro _ _ _ (fun q:Nat=>⟨[(0,.ptr 0 0),(19,.sl .int op),(20,.sc (.int .i64 op.length)),(21,.sc (.int .i64 q))],bB (some (β 0)) (k9 s S op n) 3 0 (tL S s.2.2.2.2 op q)⟩) (fun q=>q<=op.length) (fun q=>op.length - q) 0 ?_ (zero_le _) ?_
 ·refine Qu (e:=3) n 0 _ _ (zero_add n) List.length_replicate (fun i h=>absurd h (Nat.not_lt_zero _)) (fun i _ hi=>by rw[List.getElem?_replicate,if_pos hi]) rfl (fun i h=>absurd h (Nat.not_lt_zero _)) (fun i _=>?_) fun σ' cs' k1 k2 k3 k4 k5=>?_
  ·show look (_ :: _ :: _ :: []) (i+2)=none
   rw[aG _ _ J,aG _ _ J,aG _ _ J]; rfl
  ·refine re (B:=[]) (n:=n) j8 (fun p hp=>by cases hp) nodup_nil (k2.trans rfl) k3 (k4.trans (hlenK 0).symm) (fun i hi=>?_) (fun ba=>?_) (fun ba=>trivial)
   ·have hi2:i < n:=by rw[<-hlenK 0]; exact hi
    exact⟨0,(k5 i hi2).1,(k5 i hi2).2.trans (by rw[hK0 i hi])⟩
   ·rw[k1]
    try simp (maxSteps:=9^9) only[go_sem,pa,id]
    rfl
 ·rintro q hq
  have hLq:=hlenK q
  have hrq:=hrowK q
  have hnx:tL S s.2.2.2.2 op (q+1)=uF S (ct (nth (t:=an) s.2.2.2.2 (ni op q).toNat)) (tL S s.2.2.2.2 op q) 4:=rfl
  generalize hL:tL S s.2.2.2.2 op q=L at *
  generalize hM:bB (some (β 0)) (k9 s S op n) 3 0 L=M
  have m0:look M 0=some (.bx (some (β 0)) (k9 s S op n)):=by rw[<-hM]; exact pa
  have m1:look M 1=some (.box (fu 2 0 L)):=by rw[<-hM]; exact vo
  have mr:∀i (h:i < L.length),look M (i+2)=some (.row 3 .int 0 true L[i]):=fun i h=>by rw[<-hM]; exact CC h
  have mf:fresh M=n+2:=by rw[<-hM,yg,hLq]
  refine Nz ?_
  refine ao ?_ ?_<;>intro hA
  ·have hlt:q < op.length:=J
   have hv:=hop (ni op q) (by rw[cd hlt]; exact getElem_mem hlt)
   have cp:=lZ (nth (t:=an) s.2.2.2.2 (ni op q).toNat)
   have hpk:=oz (htb _ (aU (i:=(ni op q).toNat) J))
   generalize ct (nth (t:=an) s.2.2.2.2 (ni op q).toNat)=p at *
   refine Tz m0 ?_
   refine cw (cp.sh) ?_
   try simp (maxSteps:=9^9) only[go_sem]
   refine Uz mf ?_
   refine aF.intro _ _ _ (fun h:Nat=>⟨[(0,.ptr 0 0),(4,.ptr (n+2) 0),(19,.sl .int op),(20,.sc (.int .i64 op.length)),(21,.sc (.int .i64 q)),(34,.sc (.int .i64 h))],[(n+2,.box (js ax p))]++bB (some (β 0)) (k9 s S op n) 3 0 (uF S p L h)⟩) (fun h=>h<=4) (fun h=>4 - h) 0 ?_ (zero_le _) ?_
   ·refine re (n:=n) j8 (fun u hu=>?_) (nodup_cons.2 ⟨(fun h=>by cases h),nodup_nil⟩) ((aG _ _ J).trans ((aG _ _ J).trans m0)) ((aG _ _ J).trans ((aG _ _ J).trans m1)) eK (fun i hi=>⟨0,gG hi,(aG _ _ (by have:i < L.length:=hi; omega)).trans ((aG _ _ (by have:i < L.length:=hi; omega)).trans (mr i hi))⟩) (fun ba=>?_) (fun ba=>MO Fq (aD ..))
    ·rw[mem_singleton.1 hu]
     show L.length+2<=n+2
     omega
    ·have f2:(0 == n+2)=false:=by simp
     try simp (maxSteps:=9^9) only[go_sem,pa,id,f2]
     rfl
   ·rintro h hh
    have hLh:=(tT (S:=S) (p:=p) (L:=L) h).trans hLq
    have hrh:=DZ hS (by rw[hLq,hN4]) hrq h hh (p:=p)
    have hnx2:uF S p L (h+1)=rW (uF S p L h) (ic S h p) (ic S ((h+1) % 4) p):=rfl
    generalize hL2:uF S p L h=L2 at *
    generalize hM2:bB (some (β 0)) (k9 s S op n) 3 0 L2=M2
    have m0':look M2 0=some (.bx (some (β 0)) (k9 s S op n)):=by rw[<-hM2]; exact pa
    have m1':look M2 1=some (.box (fu 2 0 L2)):=by rw[<-hM2]; exact vo
    have mr':∀i (h:i < L2.length),look M2 (i+2)=some (.row 3 .int 0 true L2[i]):=fun i h=>by rw[<-hM2]; exact CC h
    have mf':fresh M2=n+2:=by rw[<-hM2,yg,hLh]
    have f2:(0 == n+2)=false:=by simp
    have f3:(1 == n+2)=false:=by simp
    have f4:(n+2 == 0)=false:=by simp
    have f5:(n+2 == 1)=false:=by simp
    have f6:¬ (n+2+1<=n+2):=J
    refine Nz ?_
    refine ao ?_ ?_<;>intro hB
    ·have hh4:h < 4:=J
     have r1:=l5 s S op h p hpk J J hS.len (uC hS hh4 p)
     have r2:=l5 s S op ((h+1) % 4) p hpk J J hS.len (uC hS J p)
     have e4:((((h+1) % 4:Nat)):Int)=((h:Int)+1) % 4:=J
     rw[e4] at r2
     have two:=Hu hS hh4 (by omega:(h+1) % 4 < 4) J p
     rw[hN4,<-hLh] at two
     have ck:=XJ (some (β 0)) s S op L2 (ic S h p) (ic S ((h+1) % 4) p) two (fun l hl=>by have:=hrh l hl; omega) J
     rw[hLh] at ck
     generalize ic S h p=ra at *
     generalize ic S ((h+1) % 4) p=rb at *
     try simp (maxSteps:=9^9) only[go_sem,m0',m1',mf',f2,f3,f4,f5]
     repeat refine AI ?_
     repeat refine AI ?_
     refine aO.h 0 ((fun _=>r1)) ?_
     try simp (maxSteps:=9^9) only[go_sem]
     try simp (maxSteps:=9^9) only[go_sem,m0',m1',mf',f2,f3,f4,f5]
     repeat refine AI ?_
     refine fR.pos J J ?_
     try simp (maxSteps:=9^9) only[go_sem,m0',m1',mf',f2,f3,f4,f5]
     repeat refine AI ?_
     repeat refine AI ?_
     refine aO.h 0 ((fun _=>r2)) ?_
     try simp (maxSteps:=9^9) only[go_sem]
     try simp (maxSteps:=9^9) only[go_sem,m0',m1',mf',f2,f3,f4,f5]
     repeat refine AI ?_
     refine aO.ma ck ?_
     refine UZ j8 ((aG _ _ J).trans m0') ((aG _ _ J).trans m1') (fun i hi=>(aG _ _ (by have:i < L2.length:=hi; omega)).trans (mr' i hi)) A6.symm ?_
     refine Nz ?_
     refine And.intro (Sx (tr:=[([],[]),([],[]),([],[]),([],[0]),([],[]),([],[n+2]),([],[]),([],[0,1]),([],[]),([],[]),([],[0]),([],[]),([],[]),([],[]),([],[n+2]),([],[]),([],[0,1])]) (t:=([],[])) ai ai) ?_
     repeat refine AI ?_
     refine az.mk (h+1) ?_ J J
     rw[hnx2]
     have hlo:(rW L2 ra rb).length=n:=by rw[A6]; exact hLh
     generalize rW L2 ra rb=L4 at *
     refine re (B:=[_]) (n:=n) j8 (fun u hu=>?_) (nodup_cons.2 ⟨(fun h=>by cases h),nodup_nil⟩) (by show look (bB _ _ _ _ _++_) 0=_; rw[a8,pa]; rfl) (by show look (bB _ _ _ _ _++_) 1=_; rw[a8,vo]; rfl) eK (fun i hi=>⟨1,gG hi,by show look (bB _ _ _ _ _++_) (i+2)=_; rw[a8,CC hi]; rfl⟩) (fun ba=>?_) (fun ba=>MO Fq (by show look (bB _ _ _ _ _++_) (n+2)=_; rw[a8,Vm J]; exact aD ..))
     ·rw[mem_singleton.1 hu]
      show L4.length+2<=n+2
      omega
     ·try simp (maxSteps:=9^9) only[go_sem,pa,id,f2]
      omega
    ·obtain rfl:h=4:=J
     refine Sz ?_
     refine az.mk (q+1) ?_ J J
     rw[hnx,hL2]
     refine re (B:=[]) (n:=n) j8 (fun p hp=>by cases hp) nodup_nil ((aG _ _ J).trans m0') ((aG _ _ J).trans m1') eK (fun i hi=>⟨0,gG hi,(aG _ _ (by have:i < L2.length:=hi; omega)).trans (mr' i hi)⟩) (fun ba=>?_) (fun ba=>trivial)
     try simp (maxSteps:=9^9) only[go_sem,pa,id]
     omega
  ·obtain rfl:q=op.length:=J
   have hld:Ih S s.2.2.2.2 op=qc L L.length:=by rw[XC,<-hL]; rfl
   rw[hld]
   refine tW m0 m1 ?_
   refine aF.intro _ _ _ (fun i:Nat=>⟨[(0,.ptr 0 0),(60,.row 1 n),(61,.sc (.int .i64 n)),(62,.sc (.int .i64 i))],bB (some (β 0)) (k9 s S op n) 3 0 (qc L i)⟩) (fun i=>i<=n) (fun i=>n - i) 0 ?_ (zero_le _) ?_
   ·refine re (B:=[]) (n:=n) j8 (fun p hp=>by cases hp) nodup_nil m0 m1 eK (fun i hi=>⟨0,gG hi,mr i hi⟩) (fun ba=>?_) (fun ba=>trivial)
    try simp (maxSteps:=9^9) only[go_sem,pa,vo,id]
    rfl
   ·rintro i hi
    have hrow:(qc L i)[i]? = L[i]?:=by rw[yB,if_neg J]
    have hsl:=Ed (L:=L) i
    have hnx2:qc L (i+1)=(qc L i).set i (mw (nth (t:=aq) (qc L i) i)):=rfl
    generalize hL3:qc L i=L3 at *
    generalize hM3:bB (some (β 0)) (k9 s S op n) 3 0 L3=M3
    have m0':look M3 0=some (.bx (some (β 0)) (k9 s S op n)):=by rw[<-hM3]; exact pa
    have m1':look M3 1=some (.box (fu 2 0 L3)):=by rw[<-hM3]; exact vo
    have mr':∀i (h:i < L3.length),look M3 (i+2)=some (.row 3 .int 0 true L3[i]):=fun i h=>by rw[<-hM3]; exact CC h
    refine Nz ?_
    refine ao ?_ ?_<;>intro hB
    ·have hin:i < n:=J
     have ci:(fu 2 0 L3).getD i .ke=.row (i+2) 0:=by rw[List.getD_eq_getElem?_getD,gG J]; rfl
     have cl:(fu 2 0 L3).length=n:=by rw[eK]; omega
     have mi:=mr' i J
     have f2:(0 == i+2)=false:=by simp
     have f3:(1 == i+2)=false:=by simp
     have f4:(i+2 == 0)=false:=by simp
     have f5:(i+2 == 1)=false:=by simp
     have hr:=hrq _ (getElem_mem (show i < L.length from J))
     have hrw:L3[i]'J=L[i]'J:=by
      rw[List.getElem?_eq_getElem J,List.getElem?_eq_getElem J] at hrow
      injection hrow
     have hnt:nth (t:=aq) L3 i=L[i]'J:=by rw[aM (t:=aq) J]; exact hrw
     rw[hrw] at mi
     rw[hnt] at hnx2
     generalize L[i]'(show i < L.length from J)=l at *
     have cs:=ry l J
     have cc:=pe (l.mergeSort mS) (by rw[List.length_mergeSort]; omega)
     try simp (maxSteps:=9^9) only[go_sem,m0',m1',mi,ci,cl,f2,f3,f4,f5,Nat.mul_one]
     repeat refine AI ?_
     refine aO.r (k:=i+2) (ver:=0) (o:=true) cs ?_
     try simp (maxSteps:=9^9) only[go_sem,m0',m1',mi,ci,cl,f2,f3,f4,f5,Nat.mul_one]
     repeat refine AI ?_
     refine aO.r (k:=i+2) (ver:=0) (o:=true) cc ?_
     try simp (maxSteps:=9^9) only[go_sem,m0',m1',mi,ci,cl,f2,f3,f4,f5,Nat.mul_one]
     repeat (refine And.intro J ?_)
     refine And.intro (HZ (zM (i+2) (i+3) (i+4)) 6 (LH J J J J J) [([],[]),([],[]),([],[]),([],[0]),([],[]),([],[]),([2],[2,2]),([],[1]),([1],[1,1])] rfl ai) ?_
     repeat refine AI ?_
     refine az.mk (i+1) ?_ J J
     have hi3:i < L3.length:=J
     have hl3:(L3.set i (mw l)).length=n:=by rw[length_set]; omega
     have hgt:∀j (h:j < (L3.set i (mw l)).length),(L3.set i (mw l))[j]=if i=j then mw l else L3[j]'(by rw[length_set] at h; exact h):=fun j h=>List.getElem_set ..
     rw[hnx2]
     refine re (B:=[]) (n:=n) (cs:=(fu 2 0 L3).set i (.row (i+2) 1)) j8 (fun p hp=>by cases hp) nodup_nil ?_ ?_ ?_ (fun j hj=>?_) (fun ba=>?_) (fun ba=>trivial)
     ·show look (_ :: _ :: _ :: M3) 0=_
      rw[aG _ _ J,aG _ _ J,aG _ _ J]; exact m0'
     ·show look (_ :: _ :: _ :: M3) 1=_
      rw[aD,D4 (by rw[cl]; exact hin)]
     ·rw[length_set,cl,hl3]
     ·have hjn:j < L3.length:=by rw[length_set] at hj; exact hj
      rw[hgt j hj]
      show ∃v,_/\look (_ :: _ :: _ :: M3) (j+2)=_
      rw[aG _ _ J]
      by_cases e:i=j
      ·subst e
       refine⟨1,?_,?_⟩
       ·rw[getElem?_set,if_pos rfl,if_pos (by rw[cl]; exact hin)]
       ·rw[if_pos rfl,aD]; rfl
      ·refine⟨0,?_,?_⟩
       ·rw[getElem?_set,if_neg e]; exact gG hjn
       ·rw[if_neg e,aG _ _ J,aG _ _ J]; exact mr' j hjn
     ·try simp (maxSteps:=9^9) only[go_sem,pa,vo,id]
      omega
    ·obtain rfl:i=n:=J
     refine Nz ?_
     rw[hLq,hL3]
     exact Yg (D:=Iy s S op) yc m0' m1' eK J (fun i hi=>⟨0,gG hi,mr' i hi⟩)
end DW

namespace DW
open Go.RowKit
theorem OH {s:dG} (hs:bp s=true):∀v ∈ s.2.2.2.2,bm v=true:=fun v hv=>by
 obtain⟨a1,a2,a3,a4⟩:=dc ((de hs).T8 v hv)
 exact rm J J J J
@[go_sem] def Xm (s:dG):List AV:=[.sc (.int .i64 s.1.1),.sc (.int .i64 s.1.2),.sc (.int .i64 s.2.1.1),.sc (.int .i64 s.2.1.2),.sl an s.2.2.1,.sl (.slice an) s.2.2.2.1,.sl an s.2.2.2.2]
@[go_sem] def rd0:List AV:=[.sc (.int .i64 0),.sc (.int .i64 0),.sc (.int .i64 0),.sc (.int .i64 0),.sc (.slice none 0 0),.sc (.slice none 0 0),.sc (.slice none 0 0),.sc (.slice none 0 0),.sc (.slice none 0 0),.sc (.slice none 0 0)]
theorem Il (s:dG) (hs:bp s=true):Fn prog 11 [⟨cY,s⟩] false [⟨mc,Pz s⟩,⟨.bool,true⟩]:=by
 have c0:=gA s
 rw[hs] at c0
 have c1:=Le s (Qt (de hs))
 have c2:=(DI s hs).sh
 have ht:=(de hs).D3
 have cc:=(O2 s (dS s 4) (l7 s) (EP hs) (fun k hk=>xk hk) (OH hs) (by have:=ub s s.2.2.2.2.length; unfold l7; omega)).ac7 (fun v hv=>by
  rcases mem_append.1 hv with hv|hv
  ·exact yc v hv
  ·rw[mem_singleton.1 hv]; trivial) (fun v hv=>by
  rcases mem_append.1 hv with hv|hv
  ·exact yc v hv
  ·rw[mem_singleton.1 hv]; trivial) 2
 have c3:=fun (k:Nat) (hk:k < 4)=>Z5 hs (h:=(k:Int)) ⟨J,J⟩
 have hl:=kR s
 have e1:∀k,dS s (k+1)=dS s k++[jP s (k:Int)]:=fun _=>rfl
 have e0:dS s 0=[]:=rfl
 unfold Pz
 unfold Iy at cc
 generalize l7 s=op at *
 generalize Ih (dS s 4) s.2.2.2.2 op=L at *
 generalize dS s=SI at *
 generalize jP s=SS at *
 obtain⟨⟨a1,a2⟩,⟨b1,b2⟩,r,o,tb⟩:=s
 refine fe func11 ntmps11 results11 fun hwf=>?_
 refine Cz c0 ?_
 refine cw c1 ?_
 refine Cz c2 ?_
 refine aF.intro _ _ _ (fun k:Nat=>⟨[(1,.ptr 0 0),(2,.ptr 1 0),(4,.ptr 2 0),(15,.sc (.int .i64 k))],if k=4 then [(0,.box (Xm ((a1,a2),(b1,b2),r,o,tb))),(1,.box rd0),(2,.box (Xm ((a1,a2),(b1,b2),r,o,tb)++[.sl aP (SI 4),.sl .int op,.sc (.slice none 0 0)]))] else [(0,.box (Xm ((a1,a2),(b1,b2),r,o,tb))),(1,.box rd0),(2,.box (Xm ((a1,a2),(b1,b2),r,o,tb)++[.row 3 0,.sl .int op,.sc (.slice none 0 0)])),(3,.row 60 aP 0 false (SI k))]⟩) (fun k=>k<=4) (fun k=>4 - k) 0 ?_ (zero_le _) ?_
 ·rw[if_neg J]
  refine Wk.fC 2 7 3 60 aP (by rfl) (by rfl) (by rfl) ?_
  simp only[List.set_cons_succ,List.set_cons_zero]
  refine Wk.mk [] ?_
  refine Nz ?_
  try (and_intros<;>first|rfl|omega|exact⟨_,rfl⟩)
  exact⟨rfl,e0.symm⟩
 ·rintro k hk
  have hlk:=hl k
  by_cases h4:k=4
  ·subst h4
   rw[if_pos rfl]
   have d1:decide (((4:Nat):Int) < 4)=false:=ae
   refine Tz d1 ?_
   refine aO.ma (cc) ?_
   try simp (maxSteps:=9^9) only[go_sem]
   repeat refine AI ?_
   all_goals exact Ez
  ·rw[if_neg h4]
   have d1:decide ((k:Int) < 4)=true:=aj J
   have c4:=c3 k J
   refine Tz d1 ?_
   refine cw c4 ?_
   refine Sz ?_
   refine az.mk (k+1) ?_ J J
   by_cases h3:k=3
   ·subst h3
    rw[if_pos rfl]
    refine Wk.mk [] ?_
    refine Nz ?_
    try (and_intros<;>first|rfl|omega|exact⟨_,rfl⟩)
    exact⟨rfl,(e1 3).symm⟩
   ·rw[if_neg J,e1]
    exact WK
section
variable {lo hi:Option Rat} {b:DV × DV} {a:List (List DV)}
theorem MS (h:∀p ∈ a,p.length<=10):∀k,k<=a.length->(kB lo hi a k).length<=10 * k
 | 0,_=>le_refl _
 | k+1,hk=>by
  have h1:=MS h k J
  have h2:=zl lo hi (kB lo hi a k) (nth (t:=.slice an) a k) (nth (t:=.slice an) a k).length
  have h3:=h _ (aS (t:=.slice an) (show k < a.length from J))
  rw[kB]; omega
theorem LR (h:∀p ∈ a,p.length<=10):∀k,k<=a.length->(qf a k).length<=10 * k
 | 0,_=>le_refl _
 | k+1,hk=>by
  have h1:=LR h k J
  have h2:=tN (nth (t:=.slice an) a k) k
  have h3:=h _ (aS (t:=.slice an) (show k < a.length from J))
  rw[qf,length_append]; omega
theorem LB {y1 y2:Int} {l0:List DR} {es:List DE}:∀i,i<=30->(jD lo hi y1 y2 l0 es i).length<=l0.length+32 * i
 | 0,_=>le_refl _
 | i+1,h=>by
  have h1:=LB (y1:=y1) (y2:=y2) (l0:=l0) (es:=es) i J
  have h2:=Ng lo hi y1 y2 (jD lo hi y1 y2 l0 es i) es i
  rw[jD]; omega
theorem Yl (h:∀p ∈ a,p.length<=10) (h3:a.length<=3):(gL b a).length<=1000:=by
 have h1:=Nn (nY (n9 b a))
 have h2:=EK (n9 b a)
 have h4:=LR h a.length (le_refl _)
 have h5:=MS (lo:=aV b.1.1) (hi:=aV b.2.1) h a.length (le_refl _)
 have h6:=LB (lo:=aV b.1.1) (hi:=aV b.2.1) (y1:=b.1.2) (y2:=b.2.2) (l0:=kB (aV b.1.1) (aV b.2.1) a a.length) (es:=dX a) (dX a).length (by unfold dX; omega)
 have h7:(n9 b a).length=(jD (aV b.1.1) (aV b.2.1) b.1.2 b.2.2 (kB (aV b.1.1) (aV b.2.1) a a.length) (dX a) (dX a).length).length+2:=length_append
 have h8:(dX a).length<=10 * a.length:=h4
 show (Co (nY (n9 b a))).length<=1000
 omega
theorem Kq (C:List dZ) (W:List fU):∀i,(nM C W i).length<=W.length * i
 | 0=>zero_le _
 | i+1=>by
  have h1:=Kq C W i
  have h2:=yR (nth (t:=bf) C i) i W (nM C W i) W.length
  rw[nM,Nat.mul_succ]; omega
theorem aa6 {h:Int} {o:Bool} (h10:∀p ∈ a,p.length<=10) (h3:a.length<=3):((lE h o b a).2.2.2.2.1.length<=5000/\(lE h o b a).2.2.2.2.2.1.length<=5000/\(lE h o b a).2.2.2.2.2.2.1.length<=100000000)/\(lE h o b a).2.2.2.2.2.2.2.length<=5000:=by
 have he:=Yl (b:=b) h10 h3
 have hc:(fc b a).length<=5000:=by
  have:=zn b a (gL b a) J ((gL b a).length - 1)
  unfold fc; omega
 have hw:(nR b a).length<=5000:=by
  have:=EI b a (gL b a) J ((gL b a).length - 1)
  unfold nR; omega
 have hd:(j6 b a).length<=100000000:=by
  have h1:=Kq (fc b a) (nR b a) (fc b a).length
  have h2:=Nat.mul_le_mul hw hc
  unfold j6; omega
 unfold lE
 split
 ·exact⟨⟨hc,hw,hd⟩,by rw[show (vL (fc b a).length (j6 b a)).length=(fc b a).length from (w5 PG (fc b a).length (ds:=j6 b a)).1]; exact hc⟩
 ·exact⟨⟨zero_le _,zero_le _,zero_le _⟩,zero_le _⟩
end
section
variable {s:dG}
theorem ot.sz (hs:ot s) (h:Int):((jP s h).2.2.2.2.1.length<=5000/\(jP s h).2.2.2.2.2.1.length<=5000/\(jP s h).2.2.2.2.2.2.1.length<=100000000)/\(jP s h).2.2.2.2.2.2.2.length<=5000:=aa6 (Yz hs h) (Un hs h)
theorem ot.ee (hs:ot s):∀k,k<=4->ee (dS s 4) k<=5000 * k
 | 0,_=>le_refl _
 | k+1,hk=>by
  have h1:=hs.ee k J
  have h2:=uz (nth (t:=aP) (dS s 4) k).2.2.2.2.2.2.2
  rw[vp s J] at h2
  have h3:=(hs.sz (k:Int)).2
  rw[DW.ee,vp s J]; omega
abbrev MA (s:dG):List (List Int):=Ih (dS s 4) s.2.2.2.2 (l7 s)
theorem qZ (s:dG):(MA s).length=ee (dS s 4) 4:=by
 show ((tL _ _ _ _).map mw).length=_
 rw[length_map,tS,kR]
theorem XV {L:List (List Int)} {i j:Nat} {N:Nat} (hi:i < N) (hj:j < N) (hL:L.length=N) (h:∀l ∈ L,∀k ∈ l,0<=k/\k < (N:Int)):∀l ∈ sg L i j,∀k ∈ l,0<=k/\k < (N:Int):=by
 intro l hl k hk
 unfold sg at hl
 have key:∀(m t:Nat),m < N->t < N->l=nth (t:=aq) L m++[(t:Int)]->0<=k/\k < (N:Int):=fun m t hm ht e=>by
  rw[e] at hk
  rcases mem_append.1 hk with hk|hk
  ·exact h _ (aS (t:=aq) J) k hk
  ·rw[mem_singleton.1 hk]; omega
 rcases List.mem_or_eq_of_mem_set hl with hl|rfl
 ·rcases List.mem_or_eq_of_mem_set hl with hl|rfl
  ·exact h l hl k hk
  ·exact key i j hi hj rfl
 ·exact key j i hj hi rfl
theorem Tq {S:List bk} (hS:sV S) {p:DP} {L:List (List Int)} (hL:L.length=ee S 4) (h:∀l ∈ L,∀k ∈ l,0<=k/\k < (ee S 4:Int)):∀m,m<=4->∀l ∈ uF S p L m,∀k ∈ l,0<=k/\k < (ee S 4:Int)
 | 0,_=>h
 | m+1,hm=>by
  have ih:=Tq hS hL h m J (p:=p)
  have hlen:=(tT (S:=S) (p:=p) (L:=L) m).trans hL
  rw[uF]
  unfold rW
  split
  ·rename_i hc
   rcases Hu hS (h:=m) (g:=(m+1) % 4) J J J p with h1|⟨i,j,e1,e2,hi,hj,_⟩
   ·omega
   ·rw[e1,e2,Int.toNat_natCast,Int.toNat_natCast]
    exact XV hi hj hlen ih
  ·exact ih
theorem QY {S:List bk} (hS:sV S) {tb:List DV} {op:List Int}:∀q,∀l ∈ tL S tb op q,∀k ∈ l,0<=k/\k < (ee S 4:Int)
 | 0=>fun l hl k hk=>by rw[(List.mem_replicate.1 hl).2] at hk; cases hk
 | q+1=>Tq hS (by rw[tS,hS.four]) (QY hS q) 4 (le_refl _)
theorem J7 (hs:bp s=true):∀l ∈ MA s,∀k ∈ l,0<=k/\k < ((MA s).length:Int):=by
 intro l hl k hk
 obtain⟨m,hm,rfl⟩:=mem_map.1 hl
 rw[qZ]
 exact QY (EP hs) _ m hm k (D8.1 hk)
theorem Yp (hs:bp s=true):∀l ∈ MA s,l.length<=1000000:=by
 intro l hl
 obtain⟨m,hm,rfl⟩:=mem_map.1 hl
 have h1:=A0 m
 have h2:=Dq (EP hs) (tb:=s.2.2.2.2) (op:=l7 s) _ m hm
 have h3:=ub s s.2.2.2.2.length
 have h4:=(de hs).D3
 have h5:(l7 s).length<=s.2.2.2.2.length:=h3
 omega
theorem Rh {z:Int} (h:-1000<=z/\z<=1000):gM (z:Rat):=aa7 (RH h)
theorem Yv {v:DV} (h:bm v=true):gp (ct v):=by
 obtain⟨a1,a2,a3,a4⟩:=eB h
 exact⟨(v.1:Rat),(v.2:Rat),by unfold ct; rw[ij,ij]; rfl,Rh J,Rh J⟩
theorem MV {z:Int} (h:0<=z/\z<=100):gM ((z:Rat) / 2):=by
 have h1:=dC
 have a:fq 2 100 ((z:Rat) / 2):=⟨z,J,by rw[show ((2:Int):Rat)=2 from rfl]; grind⟩
 have b:=qG a (k:=LC * 27720 * 2) J
 rw[show 2 * (LC * 27720 * 2)=M4 by unfold M4 HN; omega] at b
 exact lu b (by unfold M4 HN; omega)
theorem Tp {v:Int × Int} (h:U1 v):gp (hp v):=by
 obtain⟨a1,a2,a3,a4⟩:=h
 exact⟨_,_,rfl,MV ⟨a1,a2⟩,MV ⟨a3,a4⟩⟩
theorem WA {p:DP} {st:List DS} {l:List DP} (hp:gp p) (hst:∀x ∈ st,gp x.2) (hl:∀y ∈ l,gp y):∀i,i<=l.length->gp (lY p st l i).1/\∀x ∈ (lY p st l i).2,gp x.2
 | 0,_=>⟨hp,hst⟩
 | i+1,hi=>by
  obtain⟨h1,h2⟩:=WA hp hst hl i J
  rw[lY]
  split
  ·exact⟨h1,h2⟩
  ·refine⟨hl _ (aS (t:=ax) J),fun x hx=>?_⟩
   rcases mem_append.1 hx with hx|hx
   ·exact h2 x hx
   ·rw[mem_singleton.1 hx]
    exact hl _ (aS (t:=ax) J)
theorem Lz (x:bk) (p q:DP):(eL x p q).length<=2 * x.2.2.2.2.1.length+5:=by
 have:=DG x (gq x p).1 (gq x q).1
 have hw:∀i,(xq x i).length<=1:=fun i=>by unfold xq; split<;>simp
 have h1:=hw (gq x p).2
 have h2:=hw (gq x q).2
 unfold eL
 split
 ·unfold Aw
  simp only[length_append,length_cons,length_nil]
  omega
 ·exact zero_le _
theorem Wx (hs:ot s) {h:Int} {st:DP × List DS} {t:DP} (hp:gp st.1) (hst:∀x ∈ st.2,gp x.2) (ht:gp t):(gp (nB (jP s h) st t).1/\∀x ∈ (nB (jP s h) st t).2,gp x.2)/\(nB (jP s h) st t).2.length<=st.2.length+10010:=by
 have hl:=ab0 (hd:=h) (o:=mJ s h) (b:=Ae s h) (a:=xI s h) (fun ho=>hs.frame ho) hp ht
 have h1:=Lz (jP s h) st.1 t
 have h2:=(hs.sz h).1.1
 have h3:=yQ (at':=st.1) (st:=st.2) (l:=(eL (jP s h) st.1 t).drop 1) ((eL (jP s h) st.1 t).drop 1).length
 have h4:((eL (jP s h) st.1 t).drop 1).length<=10005:=by rw[length_drop]; omega
 exact⟨WA hp hst (fun y hy=>hl y (List.mem_of_mem_drop hy)) _ (le_refl _),le_trans h3 J⟩
theorem aan (g h:Int):(xb g h).length<=2:=by
 unfold xb
 split
 ·have:nth (t:=aq) [[],[1],[1,1],[-1]] ((h - g+4) % 4).toNat ∈ ([[],[1],[1,1],[-1]]:List (List Int)):=aS (t:=aq) (by show _ < 4; omega)
  simp only[mem_cons,mem_nil_iff,or_false] at this
  rcases this with e|e|e|e<;>rw[e]<;>decide
 ·decide
theorem PW {j:Int} (h:0<=ik (dS s 4) j):∃k:Int,jf (dS s 4) j=jP s k:=by
 rcases y5 (dS s 4) j with e|⟨k,e,hk,_⟩
 ·omega
 ·rw[kR] at hk
  exact⟨_,by unfold jf; rw[e,Int.toNat_natCast,vp s hk]⟩
theorem Oe (hs:ot s) {rg:List Int} {p:DP} (hp:gp p):∀i st,qn s (dS s 4) (l7 s) rg p i=some st->(gp st.1/\∀x ∈ st.2,gp x.2)/\st.2.length<=10012 * i
 | 0,st,h=>by
  injection h with h
  subst h
  exact⟨⟨hp,fun x hx=>by cases hx⟩,le_refl _⟩
 | i+1,st,h=>by
  rw[qn] at h
  cases hI:qn s (dS s 4) (l7 s) rg p i with
  | none=>rw[hI] at h; cases h
  | some st0 =>
   rw[hI] at h
   change Ik s (dS s 4) (l7 s) (ni rg i) (ni rg (i+1)) st0=some st at h
   obtain⟨⟨h1,h2⟩,h3⟩:=Oe hs hp i st0 hI
   unfold Ik at h
   split at h
   ·cases h
   ·rename_i hc
    injection h with h
    have hT:=LG (s:=s) (S:=dS s 4) (op:=l7 s) (j:=ni rg i) (k:=ni rg (i+1)) (fun k hk=>xk hk)
    have ht:gp (nE s (dS s 4) (l7 s) (ni rg i) (ni rg (i+1))):=Yv (OH hs.ok _ (aU (i:=(od s (dS s 4) (l7 s) (ni rg i) (ni rg (i+1))).toNat) J))
    obtain⟨k,hk⟩:=PW (s:=s) (j:=ni rg i) J
    rw[hk] at h
    obtain⟨⟨f1,f2⟩,f3⟩:=Wx hs (h:=k) h1 h2 ht
    have hl:=aan (ik (dS s 4) (ni rg i)) (ik (dS s 4) (ni rg (i+1)))
    rw[<-h]
    refine⟨⟨f1,fun x hx=>?_⟩,?_⟩
    ·rcases mem_append.1 hx with hx|hx
     ·exact f2 x hx
     ·obtain⟨t,_,rfl⟩:=mem_map.1 hx
      exact f1
    ·dsimp only
     rw[length_append,length_map]
     omega
theorem abo (hs:ot s) {rg:List Int} {p q:DP} (hp:gp p) (hq:gp q) {l:List DS} (h:Ag s (dS s 4) (l7 s) rg p q=some l):(∀x ∈ l,gp x.2)/\l.length<=10012 * rg.length:=by
 unfold Ag at h
 split at h
 ·cases h
 ·rename_i hne
  have hpos:=List.length_pos_iff.2 hne
  cases hI:qn s (dS s 4) (l7 s) rg p (rg.length - 1) with
  | none=>rw[hI] at h; cases h
  | some st0 =>
   rw[hI] at h
   change Jr (dS s 4) (ni rg (rg.length - 1)) q st0=some l at h
   obtain⟨⟨h1,h2⟩,h3⟩:=Oe hs hp _ st0 hI
   unfold Jr at h
   split at h
   ·cases h
   ·rename_i hc
    injection h with h
    obtain⟨k,hk⟩:=PW (s:=s) (j:=ni rg (rg.length - 1)) J
    rw[hk] at h
    obtain⟨⟨f1,f2⟩,f3⟩:=Wx hs (h:=k) h1 h2 hq
    rw[<-h]
    exact⟨f2,J⟩
def V4 (s:dG) (g h:Nat) (p q:DP):Option (List DS):=Ag s (dS s 4) (l7 s) (yr (dS s 4) (MA s) g h p q) p q
theorem aca (hs:ot s) {g h:Nat} {p q:DP} (hg:g < 4) (hp:gp p) (hq:gp q) {l:List DS} (e:V4 s g h p q=some l):(∀x ∈ l,gp x.2)/\l.length<=900000000:=by
 obtain⟨h1,h2⟩:=abo hs hp hq e
 have h3:=(EN (EP hs.ok) hg (qZ s) (J7 hs.ok) (h:=h) (p:=p) (q:=q)).1
 have h4:=hs.ee 4 (le_refl _)
 have h5:=qZ s
 exact⟨h1,J⟩
theorem DL (hs:ot s) {g h:Nat} {p q:DP} (hg:g < 4) (hh:h < 4) (hp:gp p) (hq:gp q):Fn prog 14 [⟨mc,Pz s⟩,⟨bu,((g:Int),p)⟩,⟨bu,((h:Int),q)⟩] false [⟨.slice bu,(V4 s g h p q).getD []⟩,⟨.bool,(V4 s g h p q).isSome⟩]:=by
 have h4:=hs.ee 4 (le_refl _)
 have h5:=qZ s
 have hnt:=(de hs.ok).D3
 refine Gr s (dS s 4) (l7 s) (MA s) g h p q (EP hs.ok) hg hh (BK hp) (BK hq) (qZ s) J (J7 hs.ok) (Yp hs.ok) (fun k hk=>xk hk) (OH hs.ok) ?_ J (fun x hx=>?_) (fun i hi st hst=>?_) (fun x hx st t h1 h2=>?_)
 ·have:=ub s s.2.2.2.2.length
  show (rI s s.2.2.2.2.length).length<=1000
  omega
 ·obtain⟨k,_,rfl⟩:=sv hx
  obtain⟨⟨a1,a2,a3⟩,_⟩:=hs.sz (k:Int)
  exact⟨J,J,a3⟩
 ·obtain⟨⟨a1,a2⟩,a3⟩:=Oe hs hp i st hst
  have h3:=(EN (EP hs.ok) hg (qZ s) (J7 hs.ok) (h:=h) (p:=p) (q:=q)).1
  exact⟨BK a1,J⟩
 ·obtain⟨k,_,rfl⟩:=sv hx
  have h3:=RT (x:=jP s (k:Int)) h1 h2
  have h4:=Lz (jP s (k:Int)) st.1 t
  have h5:=(hs.sz (k:Int)).1.1
  have h6:=yQ (at':=st.1) (st:=st.2) (l:=(eL (jP s (k:Int)) st.1 t).drop 1) ((eL (jP s (k:Int)) st.1 t).drop 1).length
  have h7:((eL (jP s (k:Int)) st.1 t).drop 1).length<=10005:=by rw[length_drop]; omega
  refine⟨?_,le_trans h6 J⟩
  have key:∀i,i<=((eL (jP s (k:Int)) st.1 t).drop 1).length->gB (lY st.1 st.2 ((eL (jP s (k:Int)) st.1 t).drop 1) i).1:=by
   intro i
   induction i with
   | zero=>intro _; exact GW h1
   | succ i ih =>
    intro hi
    rw[lY]
    split
    ·exact ih J
    ·exact h3 _ (List.mem_of_mem_drop (aS (t:=ax) J))
  exact JR (key _ (le_refl _))
end
variable {code:List Int}
theorem Hf (hc:code.length<=1048576) (c:Cu code):Dr 50 c c.next.next.next.next [] true ⟨bu,(c.below 4,hp (wy c.next))⟩:=by
 have c1:=bs hc c 4 ae
 have c2:=TQ hc c.next
 generalize hp (wy c.next)=P at *
 generalize c.below 4=r at *
 refine ji bK bA func50 rfl rfl _ ntmps50 _ results50 ah (np hc _) (nH _) fun b u0 hwl hzs hwf=>?_
 refine Sz ?_
 refine aO.c false (c1) ?_
 refine Sz ?_
 refine aO.c false (c2) ?_
 all_goals exact Fz
def oY (code:List Int) (hc:code.length<=1048576) (n:Int):Cu code:=Cu.at code hc (6 * n+1)
theorem sd (hc:code.length<=1048576) (n:Int) (hn:1<=n/\n<=2):Fn prog 12 [⟨.slice .u8,code⟩,⟨.int,n⟩] false [⟨bu,((oY code hc n).below 4,hp (wy (oY code hc n).next))⟩]:=by
 rw[oY]
 refine fe func12 ntmps12 results12 fun hwf=>?_
 refine Sz ?_
 refine aO.nb (Rf hc (6 * n+1) J) ?_
 refine Sz ?_
 refine aO.c false (Hf hc (Cu.at code hc (6 * n+1))) ?_
 all_goals exact Fz
theorem wG (p:DS) (l:List DS) (lim a:Int) (hp:xA p.2) (hl:∀x ∈ l,xA x.2) (hn:l.length<=900000000):Fn prog 30 [⟨bu,p⟩,⟨.slice bu,l⟩,⟨.int,lim⟩,⟨.int,a⟩] true [⟨.slice au,Aa p l lim a⟩]:=by
 have c1:=oq p l hp hl hn
 have c2:=PU lim l.length (le_trans hn ae)
 have hml:=qU p l
 by_cases hok:kD ((l.length+1:Nat):Int) (replicate l.length lim)
 ·have cG:=A1 ((l.length+1:Nat):Int) (replicate l.length lim) (by rw[List.length_replicate]; omega) hok
  have hnn:(((l.length+1:Nat):Int)).toNat=l.length+1:=J
  rw[hnn] at cG
  rw[<-hml] at cG
  rw[W7 hok]
  have hcn:=aaf hok (l.length+1)
  have hsl:=ix ((l.length+1:Nat):Int) (replicate l.length lim) (l.length+1)
  rw[<-hml] at hcn hsl ⊢
  generalize hw0:gU (((kg p l).length:Nat):Int) (replicate l.length lim) (kg p l).length=w0 at cG hcn hsl ⊢
  have cB:=Dw false (kg p l) a (zS l w0 l.length) (by rw[uJ,hsl]) J J (abp hcn _ J)
  refine Zg bK func30 rfl rfl _ ntmps30 _ results30 ah fun hwf=>?_
  refine TW.seq bK bA ?_
  refine Nz ?_
  refine TW.seq bK bA ?_
  refine Bz c1 ?_
  refine TW.seq bK bA ?_
  refine Cz c2 ?_
  refine aO.g (cG) ?_
  refine Nz ?_
  refine TW.seq bK bA ?_
  refine Nz ?_
  refine aF.intro _ _ _ (fun i:Nat=>⟨[(3,.sc (.int .i64 a)),(9,.sl ax (kg p l)),(10,.row 4 0),(24,.sl bu l),(25,.sc (.int .i64 l.length)),(26,.sc (.int .i64 i))],[(4,.row 40 au 0 false (zS l w0 i))]⟩) (fun i=>i<=l.length) (fun i=>l.length - i) 0 ?_ (zero_le _) ?_
  ·exact WK
  ·rintro i hi
   have hzl:=uJ l w0 i
   refine Nz ?_
   refine ao ?_ ?_<;>intro hA
   ·by_cases h0:(nth (t:=bu) l i).1=0
    ·have d0:=aj h0
     have hst:zS l w0 (i+1)=zS l w0 i:=if_pos h0
     try simp (maxSteps:=9^9) only[go_sem]
     repeat refine AI ?_
     refine Tz d0 ?_
     refine az.mk (i+1) ?_ J J
     rw[hst]
     exact WK
    ·have d0:=ak h0
     have hst:zS l w0 (i+1)=((zS l w0 i).set i (fE 0)).set (i+1) (fE 0):=if_neg h0
     generalize zS l w0 i=W at hst hzl ⊢
     try simp (maxSteps:=9^9) only[go_sem]
     repeat refine AI ?_
     refine Uz d0 ?_
     refine kT.CA (by intro e; rw[e] at hzl; simp at hzl; omega) ?_
     have e1:((i:Int)+1).toNat=i+1:=J
     have cz:=dP 0
     refine Cz cz ?_
     refine cw cz ?_
     try simp (maxSteps:=9^9) only[go_sem]
     repeat refine AI ?_
     try simp (maxSteps:=9^9) only[go_sem,length_set]
     repeat refine AI ?_
     refine az.mk (i+1) ?_ J J
     rw[hst]
     refine Wk.mk [] ?_
     refine Nz ?_
     try (and_intros<;>first|rfl|omega|exact⟨_,rfl⟩)
     all_goals (rw[e1]; exact⟨rfl,rfl⟩)
   ·rw[show i=l.length from J]
    refine Nz ?_
    refine TW.then bK bA ?_
    refine TW.tail (own:=true) (r:=⟨.slice au,pS (kg p l) a (zS l w0 l.length)⟩) bK 3 rfl ?_
    refine Nz ?_
    refine⟨⟨[(48,.sl ax (kg p l)),(49,.row 0 0),(50,.sc (.int .i64 a))],[(0,.row 40 au 0 false (zS l w0 l.length))]⟩,[.sl ax (kg p l),.row 0 0,.sc (.int .i64 a)],?_,rfl,rfl,cB,J,?_⟩
    ·refine Wk.mk [(0,4)] ?_
     try simp (maxSteps:=9^9) only[go_sem]
    ·try simp (maxSteps:=9^9) only[go_sem,Jx,C5]
     all_goals exact Ez
 ·rw[abN hok]
  have c3:=wJ ((l.length+1:Nat):Int) (replicate l.length lim) hok
  rw[<-hml] at c3
  have c4:=CH (kg p l) a
  refine fe func30 ntmps30 results30 fun hwf=>?_
  refine Cz c1 ?_
  refine cw c2 ?_
  refine Bz c3 ?_
  refine aF.intro _ _ _ (fun i:Nat=>⟨[(3,.sc (.int .i64 a)),(9,.sl ax (kg p l)),(10,.sc (.slice none 0 0)),(24,.sl bu l),(25,.sc (.int .i64 l.length)),(26,.sc (.int .i64 i))],[]⟩) (fun i=>i<=l.length) (fun i=>l.length - i) 0 ?_ (zero_le _) ?_
  ·exact WK
  ·rintro i hi
   refine Nz ?_
   refine ao ?_ ?_<;>intro hA
   ·by_cases h0:(nth (t:=bu) l i).1=0
    ·have d0:=aj h0
     try simp (maxSteps:=9^9) only[go_sem]
     repeat refine AI ?_
     refine Tz d0 ?_
     refine az.mk (i+1) ?_ J J
     exact WK
    ·have d0:=ak h0
     try simp (maxSteps:=9^9) only[go_sem]
     repeat refine AI ?_
     refine Tz d0 ?_
     refine az.mk (i+1) ?_ J J
     exact WK
   ·refine Sz ?_
    refine cw c4 ?_
    all_goals exact Fz
theorem I6 {p:DP} (h:gp p):xA p:=JR (GW (BK h))
theorem abm {M:Int}:pV (some (mq M 0))=0:=by
 rw[Ue]
 show eI 0 0=0
 decide
theorem lawStops_fn (code:List Int):Fn prog 6 [⟨.slice .u8,code⟩] false [⟨.bool,true⟩]:=by
 by_cases hc:code.length<=1048576
 rotate_left
 ·have d0:decide (((1048576:Int)) < (code.length:Int))=true:=aj J
  refine fe func6 ntmps6 results6 fun hwf=>?_
  all_goals exact Gz d0
 have d0:decide (((1048576:Int)) < (code.length:Int))=false:=ak J
 have cS:=KE hc
 have hs:=aaD hc
 have c1:=sd hc 1 ae
 have c2:=sd hc 2 ae
 have b1:=(oY code hc 1).a7 (n:=4) ae
 have b2:=(oY code hc 2).a7 (n:=4) ae
 have p1:=Tp (Sy (oY code hc 1).next)
 have p2:=Tp (Sy (oY code hc 2).next)
 obtain⟨g,hg⟩:∃g:Nat,(oY code hc 1).below 4=(g:Int):=⟨((oY code hc 1).below 4).toNat,J⟩
 obtain⟨h,hh⟩:∃h:Nat,(oY code hc 2).below 4=(h:Int):=⟨((oY code hc 2).below 4).toNat,J⟩
 rw[hg] at c1 b1
 rw[hh] at c2 b2
 generalize hp (wy (oY code hc 1).next)=p at *
 generalize hp (wy (oY code hc 2).next)=q at *
 generalize KC code hc=s at *
 have cB:=Il s hs.ok
 have cP:=DL hs (show g < 4 from J) (show h < 4 from J) p1 p2
 have hD:=fun l=>aca hs (g:=g) (h:=h) (show g < 4 from J) p1 p2 (l:=l)
 generalize V4 s g h p q=r at *
 generalize Pz s=R at *
 clear hs hg hh b2
 cases r with
 | none =>
  have z0:decide (((0:Nat):Int)=0)=true:=ae
  change Fn _ _ _ _ [⟨.slice bu,[]⟩,⟨.bool,false⟩] at cP
  refine fe func6 ntmps6 results6 fun hwf=>?_
  refine Tz d0 ?_
  refine cw cS ?_
  refine Cz cB ?_
  refine cw c1 ?_
  refine Cz c2 ?_
  refine cw cP ?_
  try simp (maxSteps:=9^9) only[go_sem]
  all_goals exact Gz z0
 | some l =>
  change Fn _ _ _ _ [⟨.slice bu,l⟩,⟨.bool,true⟩] at cP
  obtain⟨gl,hl⟩:=hD l rfl
  have hpts:∀y ∈ kg ((g:Int),p) l,gp y:=fun y hy=>by
   rcases mem_cons.1 (show y ∈ p :: l.map fun x=>x.2 from hy) with rfl|hy
   ·exact p1
   ·obtain⟨x,hx,rfl⟩:=mem_map.1 hy
    exact gl x hx
  obtain⟨vs,v1,v2⟩:=XI hpts
  have hszl:∀x ∈ l,xA x.2:=fun x hx=>I6 (gl x hx)
  have cM:=(wG ((g:Int),p) l 10 3 (I6 p1) hszl hl).sh
  obtain⟨m1,m2⟩:=Ns GH v1 v2
  have cQ:=aag GH v1 v2 hl
  have cN:=(oq ((g:Int),p) l (I6 p1) hszl hl).sh
  have hml:=qU ((g:Int),p) l
  have hsg:∀j,j < l.length->(nth (t:=bu) l j).1 ≠ 0->∀i,i=j\/i=j+1->Fn prog 31 [⟨au,nth (t:=au) (Aa ((g:Int),p) l 10 3) i⟩] false [⟨.int,0⟩]:=fun j hj ht i hi=>by
   obtain⟨z1,z2⟩:=Zh GH v1 hj ht
   have h3:=m2 i J
   have e0:mZ M4 vs l i=0:=by rcases hi with rfl|rfl<;>assumption
   rw[e0] at h3
   unfold vl at h3
   have:=KM (some (mq M4 0)) (h3 ▸ aI _)
   rw[abm] at this
   rw[(vM h3).2]
   exact this
  have em:((Aa ((g:Int),p) l 10 3).length:Int)=(l.length:Int)+1:=J
  generalize Aa ((g:Int),p) l 10 3=w at *
  generalize kg ((g:Int),p) l=P at *
  clear m2
  refine fe func6 ntmps6 results6 fun hwf=>?_
  refine Tz d0 ?_
  refine cw cS ?_
  refine Cz cB ?_
  refine cw c1 ?_
  refine Cz c2 ?_
  refine cw cP ?_
  refine Sz ?_
  refine cw cM ?_
  try simp (maxSteps:=9^9) only[go_sem]
  try simp (maxSteps:=9^9) only[go_sem,em]
  repeat refine AI ?_
  refine aF.intro _ _ _ (fun i:Nat=>⟨[(5,.ptr 1 0),(7,.sl bu l),(9,.sl au w),(50,.sl bu l),(51,.sc (.int .i64 l.length)),(52,.sc (.int .i64 i))],[(1,.box (js bu ((g:Int),p)))]⟩) (fun i=>i<=l.length) (fun i=>l.length - i) 0 ?_ (zero_le _) ?_
  ·exact WK
  ·rintro i hi
   refine Nz ?_
   refine ao ?_ ?_<;>intro hA
   ·have hlt:i < l.length:=J
    by_cases ht:(nth (t:=bu) l i).1=0
    ·have dt:=aj ht
     try simp (maxSteps:=9^9) only[go_sem,dt]
     repeat refine AI ?_
     refine az.mk (i+1) ?_ J J
     exact WK
    ·have dt:=ak ht
     have s1:=hsg i hlt ht i (.inl rfl)
     have s2:=hsg i hlt ht (i+1) (.inr rfl)
     have ei:((i:Int)+1).toNat=i+1:=J
     try simp (maxSteps:=9^9) only[go_sem,dt]
     repeat refine AI ?_
     repeat refine AI ?_
     refine cw s1 ?_
     try simp (maxSteps:=9^9) only[go_sem]
     refine Tz ei ?_
     refine cw s2 ?_
     refine Sz ?_
     refine az.mk (i+1) ?_ J J
     exact WK
   ·obtain rfl:i=l.length:=J
    refine Nz ?_
    refine aF.intro _ _ _ (fun i:Nat=>⟨[(5,.ptr 1 0),(7,.sl bu l),(9,.sl au w),(12,.row 2 0),(80,.sc (.int .i64 l.length)),(81,.sc (.int .i64 i))],[(1,.box (js bu ((g:Int),p))),(2,.row 3 .int 0 true (replicate i 10))]⟩) (fun i=>i<=l.length) (fun i=>l.length - i) 0 ?_ (zero_le _) ?_
    ·exact WK
    ·rintro i hi
     have hrl:(replicate i (10:Int)).length=i:=List.length_replicate
     refine Nz ?_
     refine ao ?_ ?_<;>intro hB
     ·have hlt:i < l.length:=J
      refine Tz hrl ?_
      refine az.mk (i+1) ?_ J J
      rw[List.replicate_succ']
      exact WK
     ·obtain rfl:i=l.length:=J
      refine Cz cN ?_
      refine cw cQ ?_
      all_goals exact Fz
end DW
end Go.Proofs.YtkaclgdhlpphhaaGreat
end
