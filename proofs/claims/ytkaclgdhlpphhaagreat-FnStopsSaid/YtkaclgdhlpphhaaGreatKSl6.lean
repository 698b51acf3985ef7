/-
  Texts of a proof.
-/
import Derived.Lib.SliceRun
import Derived.Deep.LoopGhost
import Derived.Test.YtkaclgdhlpphhaaGreatKSl5
set_option linter.all false
set_option maxRecDepth 100000
set_option maxHeartbeats 16000000
open Go.Proofs.Tryz
open Nat (le_refl zero_le le_trans zero_add not_lt_zero le_of_eq)
open List (mem_append replicate mem_singleton mem_cons mem_cons_self getElem?_eq_getElem length_append length_take mem_map length_set getElem_of_mem all_eq_true getD_eq_getElem?_getD length_map length_cons getElem_mem any_eq_false length_replicate map_cons length_drop append_nil take_length length_singleton getElem?_map length_mergeSort nodup_nil mem_range mem_nil_iff nodup_cons getElem?_set mem_replicate mem_filter any_eq_true mergeSort_perm set_cons_zero set_cons_succ map_append not_mem_nil length_pos_of_mem range' prefix_refl)
open Int (toNat_natCast)
open Bool (not_eq_true' and_eq_true_iff)
open Rat (le_total)
open Prod (snd fst)
noncomputable section
namespace Go.Proofs.YtkaclgdhlpphhaaGreat
namespace DW
open Go.RowKit
variable {code:List Int}
def uM (c:Cu code):Nat->Cu code
 | 0=>c
 | k+1=>(uM c k).next.next
def yh (c:Cu code) (m:Int):Nat->List DV
 | 0=>[]
 | k+1=>yh c m k++[((uM c k).below (2 * m+1) - m,(uM c k).next.below (2 * m+1) - m)]
theorem EH (c:Cu code) (m:Int):∀k,(yh c m k).length=k
 | 0=>rfl
 | k+1=>by rw[yh,length_append,EH c m k]; rfl
theorem CF (c:Cu code) {m:Int} (hm:0<=m):∀k,∀v ∈ yh c m k,fJ m v=true
 | 0=>fun v hv=>by cases hv
 | k+1=>fun v hv=>by
  rw[yh,mem_append,mem_singleton] at hv
  rcases hv with hv|rfl
  ·exact CF c hm k v hv
  ·have h1:=(uM c k).a7 (n:=2 * m+1) J
   have h2:=(uM c k).next.a7 (n:=2 * m+1) J
   exact iO (by show -m<=_ - m; omega) (by show _ - m<=m; omega) (by show -m<=_ - m; omega) (by show _ - m<=m; omega)
def th (c:Cu code):Nat:=(3+c.below 3).toNat
theorem Mu (c:Cu code):3<=th c/\th c<=5:=by
 have:=c.a7 (n:=3) ae
 unfold th; omega
def xJ (c:Cu code) (m:Int):List DV:=bT (yh c.next m (th c))
def G5 (c:Cu code):Cu code:=uM c.next (th c)
def LU:List DV:=[(-1,-1),(1,-1),(0,1)]
def gS (c:Cu code) (m:Int):Nat->List DV × Cu code
 | 0=>(LU,c)
 | k+1=>if dD (xJ c m)=true then (xJ c m,G5 c) else gS (G5 c) m k
def fG (c:Cu code):Nat->Cu code
 | 0=>c
 | k+1=>G5 (fG c k)
theorem Vs (c:Cu code) (m:Int) {k:Nat} (hk:k < 8) (h:gS c m 8=gS (fG c k) m (8 - k)):gS c m 8=if dD (xJ (fG c k) m)=true then (xJ (fG c k) m,G5 (fG c k)) else gS (fG c (k+1)) m (8 - (k+1)):=by
 rw[h,show 8 - k=(8 - (k+1))+1 from J]; rfl
theorem CB (hc:code.length<=1048576) (c:Cu code) (m:Int) (hm:1<=m/\m<=20):Dr 107 c (gS c m 8).2 [⟨.int,m⟩] true ⟨.slice an,(gS c m 8).1⟩:=by
 generalize hX:gS c m 8=X
 refine ji bK bA func107 rfl rfl _ ntmps107 _ results107 ah (np hc _) (nH _) fun b u0 hwl hzs hwf=>?_
 refine Nz ?_
 refine aF.intro _ _ _ (fun k:Nat=>⟨[(0,.ptr 0 0),(1,.sc (.int .i64 m)),(5,.sc (.int .i64 k))],[(0,.bx (some b) (.fx u0 .u8 code :: (cz (fG c k)).map fun z=>.sc z))]⟩) (fun k=>k<=8/\X=gS (fG c k) m (8 - k)) (fun k=>8 - k) 0 ?_ ⟨J,hX.symm⟩ ?_
 ·exact WK
 ·rintro k ⟨hk,hk2⟩
  have hn:=Mu (fG c k)
  have hb3:=(fG c k).a7 (n:=3) ae
  have eN:3+(fG c k).below 3=(th (fG c k):Int):=by unfold th; omega
  refine Nz ?_
  refine ao ?_ ?_<;>intro hA
  ·have hst:=Vs c m (k:=k) J (by rw[hX]; exact hk2)
   rw[hX] at hst
   refine Sz ?_
   refine aO.c false (bs hc (fG c k) 3 J) ?_
   refine Sz ?_
   refine Tz eN ?_
   refine aF.intro _ _ _ (fun j:Nat=>⟨[(0,.ptr 0 0),(1,.sc (.int .i64 m)),(5,.sc (.int .i64 k)),(6,.row 1 0),(7,.sc (.int .i64 ((th (fG c k):Int) - j)))],[(0,.bx (some b) (.fx u0 .u8 code :: (cz (uM (fG c k).next j)).map fun z=>.sc z)),(1,.row 24 an 0 true (yh (fG c k).next m j))]⟩) (fun j=>j<=th (fG c k)) (fun j=>th (fG c k) - j) 0 ?_ (zero_le _) ?_
   ·exact WK
   ·rintro j hj
    have hjl:=EH (fG c k).next m j
    have r1:=(uM (fG c k).next j).a7 (n:=2 * m+1) J
    have r2:=(uM (fG c k).next j).next.a7 (n:=2 * m+1) J
    refine Nz ?_
    refine ao ?_ ?_<;>intro hB
    ·refine Sz ?_
     refine aO.c false (bs hc (uM (fG c k).next j) (2 * m+1) J) ?_
     refine Sz ?_
     refine aO.c false (bs hc (uM (fG c k).next j).next (2 * m+1) J) ?_
     refine Nz ?_
     refine Tz hjl ?_
     refine az.mk (j+1) ?_ J J
     rw[show yh (fG c k).next m (j+1)=yh (fG c k).next m j++[((uM (fG c k).next j).below (2 * m+1) - m,(uM (fG c k).next j).next.below (2 * m+1) - m)] from rfl]
     exact WK
    ·have ej:j=th (fG c k):=J
     subst ej
     have hin:=CF (fG c k).next (m:=m) J (th (fG c k))
     have c1:=Lp (yh (fG c k).next m (th (fG c k))) (fun v hv=>by have:=dc (hin v hv); exact iO J J J J) J
     have c2:=Bi (xJ (fG c k) m)
     rw[show bT (yh (fG c k).next m (th (fG c k)))=xJ (fG c k) m from rfl] at c1
     cases hp:dD (xJ (fG c k) m)<;>rw[hp] at c2 hst
     ·refine Cz c1 ?_
      refine cw c2 ?_
      refine Sz ?_
      refine az.mk (k+1) ?_ ⟨J,hst⟩ J
      exact WK
     ·have e2:X=(xJ (fG c k) m,G5 (fG c k)):=hst
      rw[e2]
      refine Cz c1 ?_
      refine cw c2 ?_
      refine Nz ?_
      exact⟨rfl,rfl⟩
  ·have ek:k=8:=J
   subst ek
   have e2:X=(LU,fG c 8):=hk2
   rw[e2]
   all_goals exact Fz
theorem WZz {σ τ:St} (L:List (Nat×Nat)) (h:ZM L σ τ:=by (try simp (maxSteps:=9^9) only[go_sem]); try (and_intros<;>first|rfl|omega|exact⟨_,rfl⟩)):Wk σ τ:=Wk.mk L h
theorem zX (p:DP) (h:bj p=true):Fn prog 73 [⟨ax,p⟩] true [⟨ax,p⟩]:=by
 unfold bj at h
 rw[Bool.and_eq_true] at h
 have h1:=DX h.1
 have h2:=DX h.2
 have c1:=nc p.1 J J
 have c2:=nc p.2 J J
 refine fe func73 ntmps73 results73 fun hwf=>?_
 refine Cz c1 ?_
 refine cw c2 ?_
 all_goals exact Fz
end DW

namespace DW
open Go.RowKit
variable {code:List Int}
theorem XT {p q:Rat}:eI p q<=0 ↔ p<=q:=by
 unfold eI
 by_cases h1:p < q
 ·simp[h1,Rat.le_of_lt h1]
 ·by_cases h2:q < p
  ·simp[h1,h2]; exact Rat.not_le.2 h2
  ·simp[h1,h2]; exact Rat.not_lt.1 h2
theorem oG {p q:Rat} (h:p<=q):bP (some p) (some q)=some p:=by
 show (if eI p q<=0 then some p else some q)=_
 rw[if_pos (XT.2 h)]
theorem uw {p q:Rat} (h:q<=p):bP (some p) (some q)=some q:=by rw[FF,oG h]
theorem Q4 (x:Option Rat):bP x x=x:=by
 cases x with
 | none=>rfl
 | some p=>exact oG Rat.le_refl
theorem DQ (x:Option Rat):bP x none=none:=by cases x<;>rfl
theorem OL (x y z:Option Rat):bP (bP x y) z=bP x (bP y z):=by
 cases x with
 | none=>cases y<;>cases z<;>rfl
 | some p =>
  cases y with
  | none=>cases z<;>rfl
  | some q =>
   cases z with
   | none=>rw[DQ,DQ,DQ]
   | some r =>
    rcases le_total (a:=p) (b:=q) with h1|h1
    ·rw[oG h1]
     rcases le_total (a:=q) (b:=r) with h2|h2
     ·rw[oG h2,oG h1,oG (Rat.le_trans h1 h2)]
     ·rw[uw h2]
    ·rw[uw h1]
     rcases le_total (a:=q) (b:=r) with h2|h2
     ·rw[oG h2,uw h1]
     ·rw[uw h2,uw (Rat.le_trans h2 h1)]
def pB (l:List DV) (p:DP) (i:Nat):Option Rat:=A2 p (ct (nth (t:=an) l i)) (ct (nth (t:=an) l (dB l.length i).toNat))
def FM (l:List DV) (p:DP):Nat->Option Rat
 | 0=>pB l p 0
 | i+1=>bP (FM l p i) (pB l p i)
def zU (l:List DV) (p:DP):Nat->Option Rat
 | 0=>pB l p (l.length - 1)
 | i+1=>bP (zU l p i) (pB l p i)
theorem WL (l:List DV) (p:DP):∀i,zU l p (i+1)=bP (pB l p (l.length - 1)) (FM l p (i+1))
 | 0=>by show bP (pB l p (l.length - 1)) (pB l p 0)=bP _ (bP (pB l p 0) (pB l p 0)); rw[Q4]
 | i+1=>by
  show bP (zU l p (i+1)) _=bP _ (bP (FM l p (i+1)) _)
  rw[WL l p i,OL]
theorem YM {l:List DV} (p:DP) (h:2<=l.length):zU l p (l.length - 1)=FM l p l.length:=by
 obtain⟨n,hn⟩:∃n,l.length=n+2:=⟨l.length - 2,J⟩
 have:=WL l p n
 rw[show l.length - 1=n+1 from J,this,hn]
 show bP _ _=bP (FM l p (n+1)) (pB l p (n+1))
 rw[FF,show n+2 - 1=n+1 from J]
theorem ua (l:List DV) (p:DP) (i:Nat):aY (pB l p i):=VJ _ _ _
theorem LI (l:List DV) (p:DP):∀i,aY (FM l p i)
 | 0=>ua _ _ _
 | i+1=>lp (LI l p i) (ua _ _ _)
theorem MU (l:List DV) (p:DP):∀i,aY (zU l p i)
 | 0=>ua _ _ _
 | i+1=>lp (MU l p i) (ua _ _ _)
def Cw (l:List DV) (p:DP):Option Rat:=if 0<=uR l p l.length then sX else FM l p l.length
theorem X2 (l:List DV) (p:DP):aY (Cw l p):=by
 unfold Cw; split
 ·exact vK
 ·exact LI _ _ _
theorem Jg (l:List DV) (p:DP) (hl:bO l) (hp:bj p=true):Fn prog 250 [⟨.slice an,l⟩,⟨ax,p⟩] false [⟨au,oD (Cw l p)⟩]:=by
 have h3:3<=l.length:=by have:=hl.1.1; omega
 have hn:l.length<=1048576:=by have:=hl.1.2; omega
 have c1:=La l p hl.2.1 hn hp
 have c3:=zz l hn
 have hml:(l.map ct).length=l.length:=length_map ..
 have ptok:∀i,i < l.length->bj (ct (nth (t:=an) l i))=true:=fun i hi=>oz (hl.2.1 _ (aU hi))
 by_cases h0:0<=uR l p l.length
 ·have d1:=aj (p:=uR l p l.length ≥ 0) h0
  have c2:=dP 0
  rw[SK] at c2
  rw[show Cw l p=sX from if_pos h0]
  refine fe func250 ntmps250 results250 fun hwf=>?_
  refine Bz c1 ?_
  refine Tz d1 ?_
  refine cw c2 ?_
  all_goals exact Fz
 ·have d1:=ak (p:=uR l p l.length ≥ 0) h0
  rw[show Cw l p=FM l p l.length from if_neg h0,<-YM p J]
  have s0:=x8 p (ct (nth (t:=an) l (l.length - 1))) (ct (nth (t:=an) l 0)) (zk hp) (zk (ptok _ J)) (zk (ptok _ J))
  have e0:A2 p (ct (nth (t:=an) l (l.length - 1))) (ct (nth (t:=an) l 0))=zU l p 0:=by
   show _=pB l p (l.length - 1)
   unfold pB
   rw[yH J]
  rw[e0,<-nn J,<-nn J] at s0
  have ei:((l.length:Int) - 1).toNat=l.length - 1:=J
  rw[<-ei] at s0
  refine fe func250 ntmps250 results250 fun hwf=>?_
  refine Bz c1 ?_
  refine Tz d1 ?_
  refine cw c3 ?_
  refine Nz ?_
  refine Tz hml ?_
  refine cw s0 ?_
  refine Sz ?_
  refine aF.intro _ _ _ (fun i:Nat=>⟨[(3,.ptr 0 0),(4,.ptr 1 0),(5,.sl ax (l.map ct)),(6,.ptr 2 0),(7,.sc (.int .i64 (i+1)))],[(2,.box (js au (oD (zU l p i)))),(1,.box (js au (oD none))),(0,.box (js ax p))]⟩) (fun i=>i+1<=l.length) (fun i=>l.length - i) 0 ?_ J ?_
  ·exact WZz [(2,5)]
  ·rintro i hi
   refine Uz hml ?_
   refine ao ?_ ?_<;>intro hA
   ·have hlt:i+1 < l.length:=J
    have s1:=x8 p (ct (nth (t:=an) l i)) (ct (nth (t:=an) l (i+1))) (zk hp) (zk (ptok _ J)) (zk (ptok _ J))
    have e1:A2 p (ct (nth (t:=an) l i)) (ct (nth (t:=an) l (i+1)))=pB l p i:=by
     unfold pB
     rw[rQ J]
    rw[e1,<-nn J,<-nn J] at s1
    have s2:=kQ (zU l p i) (pB l p i) (MU _ _ _) (ua _ _ _)
    have hst:zU l p (i+1)=bP (zU l p i) (pB l p i):=rfl
    have q1:((i:Int)+1 - 1).toNat=i:=J
    have q2:((i:Int)+1).toNat=i+1:=J
    refine Sz ?_
    rw[q1,q2]
    refine Cz s1 ?_
    refine cw s2 ?_
    refine Sz ?_
    refine az.mk (i+1) ?_ J J
    rw[hst]
    exact WK
   ·rw[show l.length - 1=i from J]
    all_goals exact Fz
def Uk (l:List DV) (p:DP):Option Rat:=if bj p then Cw l p else none
def zq (l:List DV) (p:DP) (n:Int):Bool:=(Uk l p).isSome && decide (bG (Uk l p) (some ((n:Int):Rat))<=0)
theorem CD (l:List DV) (p:DP) (n:Int) (hl:bO l) (hn:0<=n/\n<=1000000):Fn prog 185 [⟨.slice an,l⟩,⟨ax,p⟩,⟨.int,n⟩] false [⟨.bool,zq l p n⟩]:=by
 have c0:=fm l
 rw[jg hl] at c0
 have c1:=pW p
 have d1:=ak (p:=n < 0) J
 unfold zq Uk
 cases h:bj p<;>rw[h] at c1
 ·rw[if_neg ae]
  refine fe func185 ntmps185 results185 fun hwf=>?_
  refine Cz c0 ?_
  refine cw c1 ?_
  all_goals exact Fz
 ·rw[if_pos rfl]
  have c2:=Jg l p hl h
  have c3:=h9 (Cw l p)
  have c4:=dP n
  rw[show fE n=oD (some ((n:Int):Rat)) from ij n] at c4
  have c5:=bR (Cw l p) (some ((n:Int):Rat)) (X2 _ _) (vX J)
  cases hs:(Cw l p).isSome<;>rw[hs] at c3
  ·refine fe func185 ntmps185 results185 fun hwf=>?_
   refine Cz c0 ?_
   refine cw c1 ?_
   refine Nz ?_
   refine Tz d1 ?_
   refine cw c2 ?_
   refine Sz ?_
   refine cw c3 ?_
   all_goals exact Fz
  ·refine fe func185 ntmps185 results185 fun hwf=>?_
   refine Cz c0 ?_
   refine cw c1 ?_
   refine Nz ?_
   refine Tz d1 ?_
   refine cw c2 ?_
   refine Cz c3 ?_
   refine cw c4 ?_
   refine Sz ?_
   refine cw c5 ?_
   all_goals exact Fz
def sn (l:List DV):Nat->Int
 | 0=>0
 | i+1=>max (sn l i) ((nth (t:=an) l i).1 * (nth (t:=an) l i).1+(nth (t:=an) l i).2 * (nth (t:=an) l i).2)
theorem C1 {k x:Int} (h1:-k<=x) (h2:x<=k):x * x<=k * k:=by
 rcases Int.le_total 0 x with h|h
 ·exact Int.mul_le_mul h2 h2 h J
 ·have:=Int.mul_le_mul (show -x<=k from J) (show -x<=k from J) J J
  rwa [Int.neg_mul_neg] at this
theorem BY (l:List DV) (hl:bO l):Fn prog 183 [⟨.slice an,l⟩] false [⟨.int,sn l l.length⟩]:=by
 have c0:=fm l
 rw[jg hl] at c0
 have hn:=hl.1.2
 refine fe func183 ntmps183 results183 fun hwf=>?_
 refine Bz c0 ?_
 refine aF.intro _ _ _ (fun i:Nat=>⟨[(3,.sc (.int .i64 (sn l i))),(9,.sl an l),(10,.sc (.int .i64 l.length)),(11,.sc (.int .i64 i))],[]⟩) (fun i=>i<=l.length) (fun i=>l.length - i) 0 ?_ (zero_le _) ?_
 ·exact WK
 ·rintro i hi
  refine Nz ?_
  refine ao ?_ ?_<;>intro hA
  ·have hlt:i < l.length:=J
   obtain⟨b1,b2,b3,b4⟩:=eB (hl.2.1 _ (aU hlt))
   have s1:=C1 b1 b2
   have s2:=C1 b3 b4
   have n1:=yU (nth (t:=an) l i).1
   have n2:=yU (nth (t:=an) l i).2
   have hst:sn l (i+1)=max (sn l i) ((nth (t:=an) l i).1 * (nth (t:=an) l i).1+(nth (t:=an) l i).2 * (nth (t:=an) l i).2):=rfl
   refine Sz ?_
   refine az.mk (i+1) ?_ J J
   rw[hst]
   exact WK
  ·rw[show l.length=i from J]
   all_goals exact Fz
end DW

namespace DW
open Go.RowKit
end DW

namespace DW
open Go.RowKit
theorem Bl {l:List DV} {x:DV} (h:x ∈ bT l):x ∈ l:=by
 have hc:∀{m:List DV},x ∈ py m->x ∈ m:=fun {m} hx=>by
  have h1:x ∈ (gJ m).reverse:=List.dropLast_subset _ hx
  have h2:x ∈ eF m m.length:=by unfold eF; rw[take_length]; exact List.mem_reverse.1 h1
  exact rJ h2
 unfold bT at h
 split at h
 ·exact ja.1 h
 ·rcases mem_append.1 h with h|h
  ·exact ja.1 (hc h)
  ·exact ja.1 (List.mem_reverse.1 (hc h))
theorem YV (a b:DV):bQ a b a=0:=by unfold bQ; simp
theorem XG (a b:DV):bQ a a b=0:=by unfold bQ; simp
theorem YE {l:List DV} (h:bO l):l.Nodup:=by
 rw[List.Nodup,List.pairwise_iff_getElem]
 intro i j hi hj hij e
 have h3:=h.1.1
 have h3':3<=l.length:=J
 have hr:=iI (n:=l.length) (i:=i) J
 by_cases hn:(j:Int)=dB l.length i
 ·obtain⟨k,hk,k1,k2⟩:∃k,k < l.length/\k ≠ i/\k ≠ j:=by
   by_cases q0:i ≠ 0/\j ≠ 0
   ·exact⟨0,J,J,J⟩
   ·by_cases q1:i ≠ 1/\j ≠ 1
    ·exact⟨1,J,J,J⟩
    ·exact⟨2,J,J,J⟩
  have h2:=h.2.2 i k hi hk J J
  rw[show (dB l.length i).toNat=j from J,aM (t:=an) (l:=l) hi,aM (t:=an) (l:=l) hj,e,XG] at h2
  omega
 ·have h2:=h.2.2 i j hi hj J hn
  rw[aM (t:=an) (l:=l) hj,<-e,aM (t:=an) (l:=l) hi,YV] at h2
  omega
theorem SE {α:Type} [DecidableEq α]:∀{l m:List α},l.Nodup->(∀x ∈ l,x ∈ m)->l.length<=m.length
 | [],m,_,_=>zero_le _
 | a :: l,m,hn,hs=>by
  rw[nodup_cons] at hn
  have ha:=hs a mem_cons_self
  have:=SE (m:=m.erase a) hn.2 fun x hx=>(List.mem_erase_of_ne (fun e=>hn.1 (by rw[<-e]; exact hx))).2 (hs x (List.mem_cons_of_mem _ hx))
  rw[List.length_erase_of_mem ha] at this
  have h0:0 < m.length:=length_pos_of_mem ha
  rw[length_cons]; omega
theorem Uy {k:Int} {l:List DV} (h:∀v ∈ l,fJ k v=true):jx k l=true:=Y0 fun i hi=>h _ (aU hi)
theorem abb:ql LU 20=true:=by
 have hp:bO LU:=by
  refine⟨ae,ae,?_⟩
  intro i k hi hk
  have hi:i < 3:=hi
  have hk:k < 3:=hk
  match i,k,hi,hk with
  | 0,0,_,_=>exact fun h=>absurd rfl h
  | 0,1,_,_=>exact fun _ h=>absurd rfl h
  | 0,2,_,_=>exact fun _ _=>ae
  | 1,0,_,_=>exact fun _ _=>ae
  | 1,1,_,_=>exact fun h=>absurd rfl h
  | 1,2,_,_=>exact fun _ h=>absurd rfl h
  | 2,0,_,_=>exact fun _ h=>absurd rfl h
  | 2,1,_,_=>exact fun _ _=>ae
  | 2,2,_,_=>exact fun h=>absurd rfl h
 unfold ql
 rw[jg hp]
 decide
variable {code:List Int}
theorem yq (m:Int) (hm:1<=m/\m<=20):∀(k:Nat) (c:Cu code),ql (gS c m k).1 20=true
 | 0,c=>abb
 | k+1,c=>by
  unfold gS
  split
  ·rename_i h
   have hp:bO (xJ c m):=@of_decide_eq_true _ (Classical.propDecidable _) h
   have hn:=Mu c
   have h5:=SE (YE hp) fun x hx=>Bl hx
   rw[EH] at h5
   have hin:∀v ∈ xJ c m,fJ 20 v=true:=fun v hv=>by
    have:=dc (CF c.next (m:=m) J _ v (Bl hv))
    exact iO J J J J
   unfold ql
   rw[h,Uy hin,aj (by show ((xJ c m).length:Int)<=_; omega)]; rfl
  ·exact yq m hm k (G5 c)
structure ScP (s:ey):Prop where
 low:fJ 200 s.1=true
 high:fJ 200 s.2.1=true
 zN:gI 20 s.2.2.1
 z7:∀l ∈ s.2.2.2.1,gI 200 l
 Pe:s.2.2.2.1.length<=4
 D3:s.2.2.2.2.length<=3
 T8:∀v ∈ s.2.2.2.2,fJ 200 v=true
 lx:s.1.1 < s.2.1.1
 ly:s.1.2 < s.2.1.2
theorem FN {k:Int} {l:List DV} (h:jx k l=true):∀v ∈ l,fJ k v=true:=fun v hv=>by
 unfold jx at h
 rw[not_eq_true',any_eq_false] at h
 simpa using h v hv
theorem de {s:ey} (h:bp s=true):ScP s:=by
 unfold bp GZ at h
 simp only[Bool.and_eq_true] at h
 obtain⟨h1,h2,h3,h4,h5,h6,h7,h8⟩:=h
 have ha:=FN h1
 refine⟨ha _ ah,ha _ ah,y6 h4,fun l hl=>y6 ?_,?_,?_,FN h8,of_decide_eq_true h2,of_decide_eq_true h3⟩
 ·rw[not_eq_true',any_eq_false] at h6
  simpa using h6 l hl
 ·have:=of_decide_eq_true h5; omega
 ·have:=of_decide_eq_true h7; omega
def di (s:ey) (h:Int):List DV:=s.2.2.1.map (iy h.toNat)
theorem uf {s:ey} (hs:bp s=true) (h:Int):gI 20 (di s h):=(de hs).zN.VU _
def jC (l:List DV):Nat->DV × DV
 | 0=>(nth (t:=an) l 0,nth (t:=an) l 0)
 | i+1=>((min (jC l i).1.1 (nth (t:=an) l i).1,min (jC l i).1.2 (nth (t:=an) l i).2),(max (jC l i).2.1 (nth (t:=an) l i).1,max (jC l i).2.2 (nth (t:=an) l i).2))
theorem Kn {k:Int} {l:List DV} (h:∀v ∈ l,fJ k v=true) (h0:0 < l.length):∀i,i<=l.length->((-k<=(jC l i).1.1/\(jC l i).1.1<=k)/\(-k<=(jC l i).1.2/\(jC l i).1.2<=k))/\((-k<=(jC l i).2.1/\(jC l i).2.1<=k)/\(-k<=(jC l i).2.2/\(jC l i).2.2<=k))
 | 0,_=>by
  have:=dc (h _ (aU h0))
  unfold jC
  simp only
  omega
 | i+1,hi=>by
  have h1:=Kn h h0 i J
  have h2:=dc (h _ (aU (i:=i) J))
  unfold jC
  simp only
  omega
def fg (l:List DV):DV × DV:=jC l l.length
def fh (s:ey) (h:Int):DV × DV:=((s.1.1 - (fg (di s h)).1.1,s.1.2 - (fg (di s h)).1.2),(s.2.1.1 - (fg (di s h)).2.1,s.2.1.2 - (fg (di s h)).2.2))
def og (h:Int):Bool:=decide (0<=h/\h<=3)
def UH (s:ey) (h:Int):Bool:=decide ((fh s h).1.1 < (fh s h).2.1) && decide ((fh s h).1.2 < (fh s h).2.2)
def mJ (s:ey) (h:Int):Bool:=bp s && (og h && UH s h)
def Ao (s:ey) (h:Int):List (List DV):=s.2.2.2.1.map (EU (di s h))
theorem Xb {s:ey} (hs:bp s=true) (h:Int):((-20<=(fg (di s h)).1.1/\(fg (di s h)).1.1<=20)/\(-20<=(fg (di s h)).1.2/\(fg (di s h)).1.2<=20))/\((-20<=(fg (di s h)).2.1/\(fg (di s h)).2.1<=20)/\(-20<=(fg (di s h)).2.2/\(fg (di s h)).2.2<=20)):=by
 have h1:=uf hs h
 exact Kn h1.ins (by have:=h1.iX.1.1; omega) _ (le_refl _)
theorem ab5 {s:ey} (hs:bp s=true) (h:Int):((-220<=(fh s h).1.1/\(fh s h).1.1<=220)/\(-220<=(fh s h).1.2/\(fh s h).1.2<=220))/\((-220<=(fh s h).2.1/\(fh s h).2.1<=220)/\(-220<=(fh s h).2.2/\(fh s h).2.2<=220)):=by
 have h1:=Xb hs h
 have h2:=dc (de hs).low
 have h3:=dc (de hs).high
 unfold fh
 simp only
 omega
theorem TC {s:ey} (hs:bp s=true) (h:Int):∀l ∈ Ao s h,bO l:=fun l hl=>by
 obtain⟨o,ho,rfl⟩:=mem_map.1 hl
 exact TH (uf hs h) ((de hs).z7 o ho) ae
theorem LS (s:ey) (h:Int):(Ao s h).length=s.2.2.2.1.length:=length_map ..
variable {code:List Int}
def nI (v u:DV):DV:=(u.1+v.1,u.2+v.2)
theorem Sv (v a b c:DV):bQ (nI v a) (nI v b) (nI v c)=bQ a b c:=by
 unfold bQ nI
 simp only
 rw[show b.1+v.1 - (a.1+v.1)=b.1 - a.1 from J,show c.2+v.2 - (a.2+v.2)=c.2 - a.2 from J,show b.2+v.2 - (a.2+v.2)=b.2 - a.2 from J,show c.1+v.1 - (a.1+v.1)=c.1 - a.1 from J]
theorem gI.move {l:List DV} (h:gI 20 l) {v:DV} (hv:fJ 100 v=true):gI 200 (l.map (nI v)):=by
 obtain⟨b1,b2,b3,b4⟩:=dc hv
 have hin:∀u ∈ l,fJ 200 (nI v u)=true:=fun u hu=>by
  obtain⟨a1,a2,a3,a4⟩:=dc (h.ins u hu)
  exact iO (by show -200<=_+_; omega) (by show _+_<=(200:Int); omega) (by show -200<=_+_; omega) (by show _+_<=(200:Int); omega)
 refine⟨by rw[length_map]; exact h.kd,vn h.iX (fun u hu=>?_) (Sv v),fun u hu=>?_⟩
 ·obtain⟨a1,a2,a3,a4⟩:=dc (hin u hu)
  exact rm J J J J
 ·obtain⟨w,hw,rfl⟩:=mem_map.1 hu
  exact hin w hw
theorem R5 {l:List DV} {k:Int} (h:gI k l):ql l k=true:=by
 unfold ql jx
 rw[Bool.and_eq_true,Bool.and_eq_true,not_eq_true',any_eq_false]
 have:=h.kd
 exact⟨aj J,jg h.iX,fun v hv=>by rw[h.ins v hv]; decide⟩
theorem Sg {s:ey} (h:ScP s):bp s=true:=by
 unfold bp GZ jx
 simp only[Bool.and_eq_true]
 have h1:=h.Pe
 have h2:=h.D3
 refine⟨?_,aj h.lx,aj h.ly,R5 h.zN,aj J,?_,aj J,?_⟩
 ·rw[not_eq_true',any_eq_false]
  intro v hv
  rcases mem_cons.1 hv with rfl|hv
  ·rw[h.low]; decide
  ·rw[mem_singleton.1 hv,h.high]; decide
 ·rw[not_eq_true',any_eq_false]
  intro l hl
  rw[R5 (h.z7 l hl)]; decide
 ·rw[not_eq_true',any_eq_false]
  intro v hv
  rw[h.T8 v hv]; decide
def fK (c:Cu code):Nat->Cu code
 | 0=>c
 | k+1=>(gS (fK c k) 4 8).2.next.next
def Wu (c:Cu code):List DV:=(gS c 4 8).1.map (nI (4+(gS c 4 8).2.below 16,3+(gS c 4 8).2.next.below 12))
def lV (c:Cu code):Nat->List (List DV)
 | 0=>[]
 | k+1=>lV c k++[Wu (fK c k)]
theorem zf (c:Cu code):∀k,(lV c k).length=k
 | 0=>rfl
 | k+1=>by rw[lV,length_append,zf c k]; rfl
theorem Wc (c:Cu code):fJ 100 (4+(gS c 4 8).2.below 16,3+(gS c 4 8).2.next.below 12)=true:=by
 have h1:=(gS c 4 8).2.a7 (n:=16) ae
 have h2:=(gS c 4 8).2.next.a7 (n:=12) ae
 exact iO (by show -100<=4+_; omega) (by show 4+_<=(100:Int); omega) (by show -100<=3+_; omega) (by show 3+_<=(100:Int); omega)
theorem Qd (c:Cu code):gI 200 (Wu c):=(y6 (yq 4 ae 8 c)).move (Wc c)
theorem QJ (c:Cu code):∀k,∀l ∈ lV c k,gI 200 l
 | 0=>fun l hl=>by cases hl
 | k+1=>fun l hl=>by
  rw[lV,mem_append,mem_singleton] at hl
  rcases hl with hl|rfl
  ·exact QJ c k l hl
  ·exact Qd _
def qh (x:Int):List DV:=[(x,-1),(x+2,-1),(x+2,40),(x,40)]
def kH (c:Cu code):Nat->Cu code
 | 0=>c
 | k+1=>(kH c k).next.next
def ui (c:Cu code):Nat->List DV
 | 0=>[]
 | k+1=>ui c k++[(3+(kH c k).below 18,3+(kH c k).next.below 14)]
theorem zi (c:Cu code):∀k,(ui c k).length=k
 | 0=>rfl
 | k+1=>by rw[ui,length_append,zi c k]; rfl
theorem Q9 (c:Cu code):∀k,∀v ∈ ui c k,fJ 200 v=true
 | 0=>fun v hv=>by cases hv
 | k+1=>fun v hv=>by
  rw[ui,mem_append,mem_singleton] at hv
  rcases hv with hv|rfl
  ·exact Q9 c k v hv
  ·have h1:=(kH c k).a7 (n:=18) ae
   have h2:=(kH c k).next.a7 (n:=14) ae
   exact iO (by show -200<=3+_; omega) (by show 3+_<=(200:Int); omega) (by show -200<=3+_; omega) (by show 3+_<=(200:Int); omega)
theorem rc0:bO (qh 0):=by
 refine⟨ae,?_,?_⟩
 ·intro v hv
  simp only[qh,mem_cons,not_mem_nil,or_false] at hv
  rcases hv with rfl|rfl|rfl|rfl<;>decide
 ·intro i k hi hk
  have hi:i < 4:=hi
  have hk:k < 4:=hk
  unfold rU
  obtain rfl|rfl|rfl|rfl:i=0\/i=1\/i=2\/i=3:=J
  all_goals
   obtain rfl|rfl|rfl|rfl:k=0\/k=1\/k=2\/k=3:=J
   all_goals decide
theorem Zv (x:Int):qh x=(qh 0).map (nI (x,0)):=by
 simp only[qh,nI,map_cons,List.map_nil]
 simp only[Int.add_zero,Int.zero_add,Int.add_comm 2 x]
theorem SX {x:Int} (h:0<=x/\x<=20):gI 200 (qh x):=by
 have hin:∀v ∈ qh x,fJ 200 v=true:=by
  intro v hv
  simp only[qh,mem_cons,not_mem_nil,or_false] at hv
  rcases hv with rfl|rfl|rfl|rfl<;>exact iO (by simp only; omega) (by simp only; omega) (by simp only; omega) (by simp only; omega)
 refine⟨show 4<=5 from ae,?_,hin⟩
 rw[Zv] at hin ⊢
 exact vn rc0 (fun v hv=>by
  obtain⟨b1,b2,b3,b4⟩:=dc (hin _ (mem_map.2 ⟨v,hv,rfl⟩))
  exact rm J J J J) (Sv _)
def F6 (l:List DV) (v:DV) (i:Nat):List DV:=(l.take i).map (nI v)
theorem Vo {l:List DV} {v:DV} {i:Nat} (h:i < l.length):F6 l v (i+1)=F6 l v i++[nI v (nth (t:=an) l i)]:=by
 unfold F6
 rw[List.take_succ_eq_append_getElem h,aM h,map_append]
 rfl
theorem Y3 {l:List DV} {v:DV} {i:Nat} (h:i<=l.length):(F6 l v i).length=i:=by
 unfold F6
 rw[length_map,length_take]; omega
theorem Xz {l:List DV} {v:DV} {i:Nat} (h:l.length<=i):F6 l v i=l.map (nI v):=by
 unfold F6
 rw[List.take_of_length_le h]
theorem CY (l:List DV) (v:DV) (hl:l.length<=16) (hv:bm v=true) (h:∀u ∈ l,bm u=true/\bm (nI v u)=true):Fn prog 108 [⟨.slice an,l⟩,⟨an,v⟩] true [⟨.slice an,l.map (nI v)⟩]:=by
 have c1:=fW v
 rw[hv] at c1
 refine fe func108 ntmps108 results108 fun hwf=>?_
 refine Bz c1 ?_
 refine aF.intro _ _ _ (fun i:Nat=>⟨[(0,.sl an l),(3,.ptr 0 0),(5,.row 1 0),(12,.sl an l),(13,.sc (.int .i64 l.length)),(14,.sc (.int .i64 i))],[(1,.row 24 an 0 true (F6 l v i)),(0,.box [.sc (.int .i64 v.1),.sc (.int .i64 v.2)])]⟩) (fun i=>i<=l.length) (fun i=>l.length - i) 0 ?_ (zero_le _) ?_
 ·refine Wk.mk [] ?_
  refine Nz ?_
  try (and_intros<;>first|rfl|omega|exact⟨_,rfl⟩)
  all_goals (first|exact⟨rfl,rfl⟩|rfl)
 ·rintro i hi
  refine Nz ?_
  refine ao ?_ ?_<;>intro hA
  ·have hlt:i < l.length:=J
   have hml:=Y3 (l:=l) (v:=v) (i:=i) J
   have e:=Vo (v:=v) hlt
   obtain⟨h1,h2⟩:=h _ (aU hlt)
   have c2:=fW (nth (t:=an) l i)
   have c3:=fW (nI v (nth (t:=an) l i))
   rw[h1] at c2
   rw[h2] at c3
   obtain⟨a1,a2,a3,a4⟩:=dc h1
   obtain⟨b1,b2,b3,b4⟩:=dc hv
   unfold nI at c3 e
   refine Cz c2 ?_
   refine cw c3 ?_
   refine Nz ?_
   refine Tz hml ?_
   refine az.mk (i+1) ?_ J J
   rw[e]
   refine Wk.mk [] ?_
   refine Nz ?_
   try (and_intros<;>first|rfl|omega|exact⟨_,rfl⟩)
   all_goals (first|exact⟨J,rfl⟩|exact⟨rfl,rfl⟩)
  ·rw[<-Xz (l:=l) (v:=v) (i:=i) J]
   all_goals exact Fz
theorem vr (l:List DV) (hl:l.length<=16777216):Fn prog 114 [⟨.slice an,l⟩] true [⟨.slice an,l⟩]:=by
 refine fe func114 ntmps114 results114 fun hwf=>?_
 refine Nz ?_
 refine kT.eq ?_
 refine Nz ?_
 refine IZ (fun h=>?_) (fun h=>?_)
 ·try simp (maxSteps:=9^9) only[go_sem,h]
 ·refine Sz ?_
  refine Nz ?_
  omega
theorem KU (l:List (List DV)) (hl:l.length<=1000) (h:∀a ∈ l,a.length<=1000):Fn prog 115 [⟨iz,l⟩] false [⟨iz,l⟩]:=by
 refine fe func115 ntmps115 results115 fun hwf=>?_
 refine Nz ?_
 refine aF.intro _ _ _ (fun i:Nat=>⟨[(3,.row 0 0),(7,.sl (.slice an) l),(8,.sc (.int .i64 l.length)),(9,.sc (.int .i64 i))],[(0,.row 25 (.slice an) 0 false (l.take i))]⟩) (fun i=>i<=l.length) (fun i=>l.length - i) 0 ?_ (zero_le _) ?_
 ·exact WK
 ·rintro i hi
  have hlen:(l.take i).length<=i:=by rw[length_take]; omega
  refine Nz ?_
  refine ao ?_ ?_<;>intro hA
  ·have hlt:i < l.length:=J
   have c1:=vr (nth (t:=.slice an) l i) (le_trans (h _ (aS (t:=.slice an) hlt)) ae)
   have e:l.take (i+1)=l.take i++[nth (t:=.slice an) l i]:=by
    rw[List.take_add_one,getElem?_eq_getElem hlt,aM (t:=.slice an) hlt]; rfl
   refine Cz c1 ?_
   refine az.mk (i+1) ?_ J J
   rw[e]
   exact WK
  ·obtain rfl:i=l.length:=J
   refine Nz ?_
   exact take_length
theorem Qt {s:dG} (h:ScP s):s.2.2.1.length<=16/\s.2.2.2.1.length<=4/\(∀a ∈ s.2.2.2.1,a.length<=1000)/\s.2.2.2.2.length<=16:=by
 have h1:=h.Pe
 have h2:=h.D3
 have h3:=h.zN.kd
 exact⟨J,J,fun a ha=>by have:=(h.z7 a ha).kd; omega,J⟩
theorem Le (s:dG) (h:s.2.2.1.length<=16/\s.2.2.2.1.length<=4/\(∀a ∈ s.2.2.2.1,a.length<=1000)/\s.2.2.2.2.length<=16):Fn prog 46 [⟨cY,s⟩] false [⟨cY,s⟩]:=by
 obtain⟨h1,h2,h3,h4⟩:=h
 have c1:=vr s.2.2.1 J
 have c2:=KU s.2.2.2.1 J h3
 have c3:=vr s.2.2.2.2 J
 obtain⟨⟨a1,a2⟩,⟨b1,b2⟩,r,ob,tb⟩:=s
 refine fe func46 ntmps46 results46 fun hwf=>?_
 refine Cz c1 ?_
 refine cw c2 ?_
 refine Sz ?_
 refine cw c3 ?_
 all_goals exact Fz
@[go_sem] def cC (k:dZ):List AV:=[.sc (.bool k.1.1.1),.sl .int k.1.1.2,.sl .int k.1.2,.sc (.bool k.2.1.1.1),.sl .int k.2.1.1.2,.sl .int k.2.1.2,.sc (.bool k.2.2.1.1.1),.sl .int k.2.2.1.1.2,.sl .int k.2.2.1.2,.sc (.bool k.2.2.2.1.1.1),.sl .int k.2.2.2.1.1.2,.sl .int k.2.2.2.1.2,.sc (.bool k.2.2.2.2.1.1.1),.sl .int k.2.2.2.2.1.1.2,.sl .int k.2.2.2.2.1.2,.sc (.bool k.2.2.2.2.2.1.1),.sl .int k.2.2.2.2.2.1.2,.sl .int k.2.2.2.2.2.2]
@[go_sem] def sB0:List AV:=[.sc (.int .i64 0),.sc (.bool false),.sc (.int .i64 0),.sc (.int .i64 0),.sc (.int .i64 0),.sc (.int .i64 0),.sc (.slice none 0 0),.sc (.slice none 0 0),.sc (.slice none 0 0),.sc (.slice none 0 0),.sc (.slice none 0 0)]
section
variable {s:dG} {h:Int} {o:Bool} {b:DV × DV} {a:List (List DV)}
theorem Oq (hz:o=false->b=((0,0),(0,0))) (cv:Fn prog 45 [⟨cY,s⟩] false [⟨.bool,true⟩]) (hh:0<=h/\h<=3) (c1:Fn prog 131 [⟨cY,s⟩,⟨.int,h⟩] false [⟨tE,b⟩,⟨.bool,o⟩]) (c2:Fn prog 132 [⟨cY,s⟩,⟨.int,h⟩] true [⟨iz,a⟩])
  (hb:((b.1.1).natAbs<=1000/\(b.1.2).natAbs<=1000)/\((b.2.1).natAbs<=1000/\(b.2.2).natAbs<=1000)) (hp:∀x ∈ a,dD x=true) (ha:a.length<=4):Fn prog 48 [⟨cY,s⟩,⟨.int,h⟩] false [⟨aP,lE h o b a⟩]:=by
 have ce:=DU s h o b a hz c1 c2
 have ch:=kP h
 rw[aj hh] at ch
 unfold lE
 cases o
 ·have hz:=hz rfl
  subst hz
  rw[if_neg (fun h=>by cases h)] at ce ⊢
  refine fe func48 ntmps48 results48 fun hwf=>?_
  refine Cz cv ?_
  refine cw ch ?_
  refine Sz ?_
  refine cw ce ?_
  all_goals exact Fz
 rw[if_pos rfl] at ce ⊢
 have hb1:b.1.1.natAbs<=1000000/\b.2.1.natAbs<=1000000:=⟨J,J⟩
 have hb2:b.1.2.natAbs<=1000000/\b.2.2.natAbs<=1000000:=⟨J,J⟩
 have cev:=Lu b a hb1 ⟨⟨J,J⟩,⟨J,J⟩⟩ hp J
 have hel:=N3 (b:=b) hp ha
 have heo:=aaC hb1 hp
 unfold j6 fc nR
 generalize gL b a=ev at *
 have hcok:=RU (a:=a) (ev:=ev) hb2
 have hwok:=Kp (a:=a) (ev:=ev) hb2
 have hcl:=zn b a ev ha
 have hwl:=EI b a ev ha
 have csl:=fun lo hi h1 h2=>Iq b a lo hi hb2 hp J h1 h2
 have cwl:=fun x hx=>O8 b a x hb2 hp J hx
 obtain⟨⟨b1,b2⟩,⟨b3,b4⟩⟩:=b
 refine fe func48 ntmps48 results48 fun hwf=>?_
 refine Cz cv ?_
 refine cw ch ?_
 refine Cz ce ?_
 refine cw cev ?_
 refine Nz ?_
 refine aF.intro _ _ _ (fun k:Nat=>⟨[(4,.ptr 3 0),(5,.ptr 0 0),(6,.sl au ev),(7,.sc (.int .i64 ((k+1:Nat):Int)))],[(0,.box [.sc (.int .i64 h),.sc (.bool true),.sc (.int .i64 b1),.sc (.int .i64 b2),.sc (.int .i64 b3),.sc (.int .i64 b4),.sl (.slice an) a,.row 1 0,.row 2 0,.sc (.slice none 0 0),.sc (.slice none 0 0)]),(1,.row 170 bf 0 false (p9 ((b1,b2),b3,b4) a ev k)),(2,.row 172 bz 0 false (s9 ((b1,b2),b3,b4) a ev k)),(3,.box sB0)]⟩) (fun k=>k<=ev.length - 1) (fun k=>ev.length - k) 0 ?_ (zero_le _) ?_
 ·refine Wk.fC 2 7 10 170 bf (by rfl) (by rfl) (by rfl) ?_
  refine Wk.fC 2 8 11 172 bz (by rfl) (by rfl) (by rfl) ?_
  simp only[set_cons_succ,set_cons_zero]
  exact WZz [(0,2),(1,10),(2,11),(3,1)]
 ·rintro k hk
  have hclk:=hcl k
  have hwlk:=hwl k
  have hN:(((k+1:Nat):Int) - 1).toNat=k:=J
  have hN2:(((k+1:Nat):Int)).toNat=k+1:=J
  refine Nz ?_
  refine ao ?_ ?_<;>intro hA
  ·have hkt:k+1 < ev.length:=J
   have v1:=heo _ (aS (t:=au) (i:=k) (show k < ev.length from J))
   have v2:=heo _ (aS (t:=au) hkt)
   have c3:=csl (aw (nth (t:=au) ev k)) (aw (nth (t:=au) ev (k+1))) (aI _) (aI _)
   rw[bg v1,bg v2] at c3
   have c4:=cwl (aw (nth (t:=au) ev (k+1))) (aI _)
   rw[bg v2] at c4
   have hsl:=Iz ((b1,b2),b3,b4) a (aw (nth (t:=au) ev k)) (aw (nth (t:=au) ev (k+1)))
   have hwl2:=JK ((b1,b2),b3,b4) a (aw (nth (t:=au) ev (k+1)))
   have e1:p9 ((b1,b2),b3,b4) a ev (k+1)=p9 ((b1,b2),b3,b4) a ev k++AA ((b1,b2),b3,b4) a (aw (nth (t:=au) ev k)) (aw (nth (t:=au) ev (k+1))):=rfl
   have e2:s9 ((b1,b2),b3,b4) a ev (k+1)=if k+2 < ev.length then s9 ((b1,b2),b3,b4) a ev k++Bc ((b1,b2),b3,b4) a (aw (nth (t:=au) ev (k+1))) else s9 ((b1,b2),b3,b4) a ev k:=rfl
   have t1:nth (t:=au) ev (((k+1:Nat):Int) - 1).toNat=nth (t:=au) ev k:=by rw[hN]
   refine Sz ?_
   try rw[hN]
   refine Cz c3 ?_
   refine ao ?_ ?_<;>intro hB
   ·rw[if_pos J] at e2
    refine Cz c4 ?_
    refine az.mk (k+1) ?_ J J
    rw[e1,e2]
    exact WK
   ·rw[if_neg J] at e2
    refine Sz ?_
    refine az.mk (k+1) ?_ J J
    rw[e1,e2]
    exact WK
  ·obtain rfl:k=ev.length - 1:=J
   have hco:=hcok (ev.length - 1)
   have hwo:=hwok (ev.length - 1)
   generalize p9 ((b1,b2),b3,b4) a ev (ev.length - 1)=C at *
   generalize s9 ((b1,b2),b3,b4) a ev (ev.length - 1)=W at *
   have hdl:=Mb C W J
   have hdo:=J3 C W
   refine Sz ?_
   refine aF.intro _ _ _ (fun i:Nat=>⟨[(4,.ptr 2 0),(5,.ptr 0 0),(76,.sl bf C),(77,.sc (.int .i64 C.length)),(78,.sc (.int .i64 i))],[(0,.box [.sc (.int .i64 h),.sc (.bool true),.sc (.int .i64 b1),.sc (.int .i64 b2),.sc (.int .i64 b3),.sc (.int .i64 b4),.sl (.slice an) a,.sl bf C,.sl bz W,.row 1 0,.sc (.slice none 0 0)]),(1,.row 118 an 0 false (nM C W i)),(2,.box sB0)]⟩) (fun i=>i<=C.length) (fun i=>C.length - i) 0 ?_ (zero_le _) ?_
   ·refine Wk.fC 0 9 10 118 an (by rfl) (by rfl) (by rfl) ?_
    simp only[set_cons_succ,set_cons_zero]
    exact WZz [(1,10),(2,3)]
   ·rintro i hi
    have hdi:=hdl i
    refine Nz ?_
    refine ao ?_ ?_<;>intro hB
    ·have hit:i < C.length:=J
     have hci:=hco _ (aS (t:=bf) hit)
     have e3:nM C W (i+1)=sW (nth (t:=bf) C i) i W (nM C W i) W.length:=rfl
     refine Sz ?_
     refine aF.intro _ _ _ (fun j:Nat=>⟨[(4,.ptr 2 0),(5,.ptr 0 0),(8,.sc (.int .i64 i)),(9,.ptr 3 0),(76,.sl bf C),(77,.sc (.int .i64 C.length)),(78,.sc (.int .i64 i)),(84,.sl bz W),(85,.sc (.int .i64 W.length)),(86,.sc (.int .i64 j))],[(0,.box [.sc (.int .i64 h),.sc (.bool true),.sc (.int .i64 b1),.sc (.int .i64 b2),.sc (.int .i64 b3),.sc (.int .i64 b4),.sl (.slice an) a,.sl bf C,.sl bz W,.row 1 0,.sc (.slice none 0 0)]),(1,.row 118 an 0 false (sW (nth (t:=bf) C i) i W (nM C W i) j)),(2,.box sB0),(3,.box (cC (nth (t:=bf) C i)))]⟩) (fun j=>j<=W.length) (fun j=>W.length - j) 0 ?_ (zero_le _) ?_
     ·exact WK
     ·rintro j hj
      have hdj:=yR (nth (t:=bf) C i) i W (nM C W i) j
      refine Nz ?_
      refine ao (fun hD=>?_) (fun hD=>?_)
      ·have hjt:j < W.length:=J
       have c5:=Az _ _ hci (hwo _ (aS (t:=bz) hjt))
       have e4:sW (nth (t:=bf) C i) i W (nM C W i) (j+1)=if Sj (nth (t:=bf) C i) (nth (t:=bz) W j)=true then sW (nth (t:=bf) C i) i W (nM C W i) j++[((i:Int),(j:Int))] else sW (nth (t:=bf) C i) i W (nM C W i) j:=rfl
       cases g:Sj (nth (t:=bf) C i) (nth (t:=bz) W j)<;>rw[g] at c5 e4
       ·rw[if_neg (fun h=>by cases h)] at e4
        refine Cz c5 ?_
        refine az.mk (j+1) ?_ J J
        rw[e4]
        exact WK
       ·rw[if_pos rfl] at e4
        refine Cz c5 ?_
        refine az.mk (j+1) ?_ J J
        rw[e4]
        exact WK
      ·obtain rfl:j=W.length:=J
       refine Sz ?_
       refine az.mk (i+1) ?_ J J
       rw[e3]
       exact WK
    ·obtain rfl:i=C.length:=J
     have c6:=PK C.length (nM C W C.length) (hdo C.length (le_refl _)) J
     refine Sz ?_
     refine cw c6 ?_
     all_goals exact Fz
end
end DW

namespace DW
open Go.RowKit
theorem wX (F:FuncId) (A:Ty) (x:A.den) (p:dZ->Bool) (l:List dZ) (hF:∀y ∈ l,Fn prog F (⟨bf,y⟩ :: kx A x) false [⟨.bool,p y⟩]):Fn prog 315 [⟨.slice bf,l⟩,⟨.ext (.ie F) A,some x⟩] false [⟨.int,jL (t:=bf) p l⟩]:=by
 refine fe func315 ntmps315 results315 fun hwf=>?_
 have hl:l.length<=9223372036854775807:=(hwf ⟨.slice bf,l⟩ ah).1
 refine Nz ?_
 refine aF.intro _ _ _ (fun i:Nat=>⟨[(0,.sl bf l),(1,.ex (.ie F) A (some x)),(7,.sc (.int .i64 l.length)),(8,.sc (.int .i64 i))],[]⟩) (fun i=>∀j < i,j < l.length->p (nth (t:=bf) l j)=false) (fun i=>l.length - i) 0 ?_ (fun j h=>by simp at h) ?_
 ·exact WK
 ·rintro i h2
  refine Nz ?_
  refine ao ?_ ?_<;>intro h3
  ·have c1:=hF (nth (t:=bf) l i) (aS (t:=bf) J)
   refine Sz ?_
   refine qu.mk (c1) ?_
   refine Nz ?_
   refine ig (fun h4=>?_) (fun h4=>?_)
   ·refine Nz ?_
    exact (jy J h4 (fun j hj=>h2 j hj J)).symm
   ·refine Sz ?_
    refine az.mk (i+1) ?_ (fun j hj hl=>?_) J
    ·exact WK
    ·by_cases hj2:j < i
     ·exact h2 j hj2 hl
     ·rw[show j=i from J]; exact h4
  ·refine Nz ?_
   exact (fP fun j hj=>h2 j J hj).symm
theorem yo (F:FuncId) (A:Ty) (x:A.den) (p:fU->Bool) (l:List fU) (hF:∀y ∈ l,Fn prog F (⟨bz,y⟩ :: kx A x) false [⟨.bool,p y⟩]):Fn prog 318 [⟨.slice bz,l⟩,⟨.ext (.ie F) A,some x⟩] false [⟨.int,jL (t:=bz) p l⟩]:=by
 refine fe func318 ntmps318 results318 fun hwf=>?_
 have hl:l.length<=9223372036854775807:=(hwf ⟨.slice bz,l⟩ ah).1
 refine Nz ?_
 refine aF.intro _ _ _ (fun i:Nat=>⟨[(0,.sl bz l),(1,.ex (.ie F) A (some x)),(7,.sc (.int .i64 l.length)),(8,.sc (.int .i64 i))],[]⟩) (fun i=>∀j < i,j < l.length->p (nth (t:=bz) l j)=false) (fun i=>l.length - i) 0 ?_ (fun j h=>by simp at h) ?_
 ·exact WK
 ·rintro i h2
  refine Nz ?_
  refine ao ?_ ?_<;>intro h3
  ·have c1:=hF (nth (t:=bz) l i) (aS (t:=bz) J)
   refine Sz ?_
   refine qu.mk (c1) ?_
   refine Nz ?_
   refine ig (fun h4=>?_) (fun h4=>?_)
   ·refine Nz ?_
    exact (jy J h4 (fun j hj=>h2 j hj J)).symm
   ·refine Sz ?_
    refine az.mk (i+1) ?_ (fun j hj hl=>?_) J
    ·exact WK
    ·by_cases hj2:j < i
     ·exact h2 j hj2 hl
     ·rw[show j=i from J]; exact h4
  ·refine Nz ?_
   exact (fP fun j hj=>h2 j J hj).symm
theorem xZ (F:FuncId) (A:Ty) (x:A.den) (p:DV->Bool) (l:List DV) (hF:∀y ∈ l,Fn prog F (⟨an,y⟩ :: kx A x) false [⟨.bool,p y⟩]):Fn prog 141 [⟨.slice an,l⟩,⟨.ext (.ie F) A,some x⟩] false [⟨.int,jL (t:=an) p l⟩]:=by
 refine fe func141 ntmps141 results141 fun hwf=>?_
 have hl:l.length<=9223372036854775807:=(hwf ⟨.slice an,l⟩ ah).1
 refine Nz ?_
 refine aF.intro _ _ _ (fun i:Nat=>⟨[(0,.sl an l),(1,.ex (.ie F) A (some x)),(7,.sc (.int .i64 l.length)),(8,.sc (.int .i64 i))],[]⟩) (fun i=>∀j < i,j < l.length->p (nth (t:=an) l j)=false) (fun i=>l.length - i) 0 ?_ (fun j h=>by simp at h) ?_
 ·exact WK
 ·rintro i h2
  refine Nz ?_
  refine ao ?_ ?_<;>intro h3
  ·have c1:=hF (nth (t:=an) l i) (aS (t:=an) J)
   refine Sz ?_
   refine qu.mk (c1) ?_
   refine Nz ?_
   refine ig (fun h4=>?_) (fun h4=>?_)
   ·refine Nz ?_
    exact (jy J h4 (fun j hj=>h2 j hj J)).symm
   ·refine Sz ?_
    refine az.mk (i+1) ?_ (fun j hj hl=>?_) J
    ·exact WK
    ·by_cases hj2:j < i
     ·exact h2 j hj2 hl
     ·rw[show j=i from J]; exact h4
  ·refine Nz ?_
   exact (fP fun j hj=>h2 j J hj).symm
theorem Pm (k:dZ) (p:DP) (hp:bj p=true):Fn prog 316 [⟨bf,k⟩,⟨.ext .ref ax,some p⟩] false [⟨.bool,Ni p k⟩]:=by
 have c1:=QO k p hp
 obtain⟨k1,k2,k3,k4,k5,k6⟩:=k
 obtain⟨p1,p2⟩:=p
 refine fe func316 ntmps316 results316 fun hwf=>?_
 refine Sz ?_
 refine cw c1 ?_
 all_goals exact Fz
theorem Oi (k:fU) (p:DP) (hp:bj p=true):Fn prog 319 [⟨bz,k⟩,⟨.ext .ref ax,some p⟩] false [⟨.bool,J8 p k⟩]:=by
 have c1:=SC k p hp
 obtain⟨k1,k2,k3⟩:=k
 obtain⟨p1,p2⟩:=p
 refine fe func319 ntmps319 results319 fun hwf=>?_
 refine Sz ?_
 refine cw c1 ?_
 all_goals exact Fz
theorem O9 (d:DV) (w:Int):Fn prog 276 [⟨an,d⟩,⟨.ext .ref .int,some w⟩] false [⟨.bool,decide ((d.2:Int)=w)⟩]:=by
 obtain⟨d1,d2⟩:=d
 refine fe func276 ntmps276 results276 fun hwf=>?_
 try simp (maxSteps:=9^9) only[go_sem]
 repeat refine AI ?_
 all_goals exact Ez
theorem R3 (x:bk) (p:DP) (hp:bj p=true):Fn prog 274 [⟨aP,x⟩,⟨ax,p⟩] false [⟨.int,jL (t:=bf) (Ni p) x.2.2.2.2.1⟩]:=by
 have c1:=wX 316 (.ext .ref ax) (some p) (Ni p) x.2.2.2.2.1 (fun y _=>Pm y p hp)
 obtain⟨hd,o,⟨⟨b1,b2⟩,⟨b3,b4⟩⟩,a,C,W,D,T⟩:=x
 obtain⟨p1,p2⟩:=p
 dsimp only at c1 ⊢
 refine fe func274 ntmps274 results274 fun hwf=>?_
 refine Sz ?_
 refine jl.mk (c1) ?_
 all_goals exact Fz
theorem PQ (x:bk) (p:DP) (hp:bj p=true):Fn prog 275 [⟨aP,x⟩,⟨ax,p⟩] false [⟨.int,jL (t:=bz) (J8 p) x.2.2.2.2.2.1⟩]:=by
 have c1:=yo 319 (.ext .ref ax) (some p) (J8 p) x.2.2.2.2.2.1 (fun y _=>Oi y p hp)
 obtain⟨hd,o,⟨⟨b1,b2⟩,⟨b3,b4⟩⟩,a,C,W,D,T⟩:=x
 obtain⟨p1,p2⟩:=p
 dsimp only at c1 ⊢
 refine fe func275 ntmps275 results275 fun hwf=>?_
 refine Sz ?_
 refine jl.mk (c1) ?_
 all_goals exact Fz
theorem NN {t:Ty} (p:t.den->Bool) (l:List t.den):-1<=jL p l/\jL p l < (l.length:Int):=by
 unfold jL
 split
 ·rename_i i h
  obtain⟨hi,_⟩:=List.findIdx?_eq_some_iff_getElem.1 h
  exact⟨J,J⟩
 ·exact⟨J,J⟩
def E6 (x:bk) (p:DP):Int:=jL (t:=bz) (J8 p) x.2.2.2.2.2.1
def Xk (x:bk) (p:DP):Int:=jL (t:=bf) (Ni p) x.2.2.2.2.1
def M8 (x:bk) (p:DP):Int:=jL (t:=an) (fun d=>decide ((d.2:Int)=E6 x p)) x.2.2.2.2.2.2.1
def gq (x:bk) (p:DP):Int × Int:=if 0<=Xk x p then (Xk x p,-1) else if E6 x p < 0\/M8 x p < 0 then (-1,-1) else ((nth (t:=an) x.2.2.2.2.2.2.1 (M8 x p).toNat).1,E6 x p)
theorem yl (x:bk) (p:DP) (hp:bj p=true):Fn prog 209 [⟨aP,x⟩,⟨ax,p⟩] false [⟨.int,(gq x p).1⟩,⟨.int,(gq x p).2⟩]:=by
 have c1:=R3 x p hp
 have c2:=PQ x p hp
 have c3:=xZ 276 (.ext .ref .int) (some (E6 x p)) (fun d=>decide ((d.2:Int)=E6 x p)) x.2.2.2.2.2.2.1 (fun y _=>O9 y _)
 have r:=NN (t:=an) (fun d=>decide ((d.2:Int)=E6 x p)) x.2.2.2.2.2.2.1
 unfold gq
 change Fn _ _ _ _ [⟨.int,Xk x p⟩] at c1
 change Fn _ _ _ _ [⟨.int,E6 x p⟩] at c2
 change Fn _ _ _ _ [⟨.int,M8 x p⟩] at c3
 change -1<=M8 x p/\M8 x p < _ at r
 generalize Xk x p=n1 at *
 generalize M8 x p=n3 at *
 generalize E6 x p=n2 at *
 obtain⟨hd,o,⟨⟨b1,b2⟩,⟨b3,b4⟩⟩,a,C,W,D,T⟩:=x
 obtain⟨p1,p2⟩:=p
 dsimp only at r c3 ⊢
 by_cases g1:0<=n1
 ·rw[if_pos g1]
  refine fe func209 ntmps209 results209 fun hwf=>?_
  refine Bz c1 ?_
  refine ao ?_ ?_<;>intro hA
  ·all_goals exact Fz
  ·omega
 rw[if_neg g1]
 by_cases g2:n2 < 0
 ·rw[if_pos (.inl g2)]
  refine fe func209 ntmps209 results209 fun hwf=>?_
  refine Bz c1 ?_
  refine ao ?_ ?_<;>intro hA
  ·omega
  ·refine Cz c2 ?_
   refine jl.mk (c3) ?_
   refine Nz ?_
   try simp (maxSteps:=9^9) only[go_sem,aj g2]
   all_goals exact Ez
 by_cases g3:n3 < 0
 ·rw[if_pos (.inr g3)]
  refine fe func209 ntmps209 results209 fun hwf=>?_
  refine Bz c1 ?_
  refine ao ?_ ?_<;>intro hA
  ·omega
  ·refine Cz c2 ?_
   refine jl.mk (c3) ?_
   refine Nz ?_
   try simp (maxSteps:=9^9) only[go_sem,ak g2,aj g3]
   all_goals exact Ez
 ·rw[if_neg J]
  refine fe func209 ntmps209 results209 fun hwf=>?_
  refine Bz c1 ?_
  refine ao ?_ ?_<;>intro hA
  ·omega
  ·refine Cz c2 ?_
   refine jl.mk (c3) ?_
   refine Nz ?_
   try simp (maxSteps:=9^9) only[go_sem,ak g2,ak g3]
   all_goals exact Ez
def xh (x:bk) (p:DP):Int:=if 0<=(gq x p).1/\(gq x p).1<=(x.2.2.2.2.2.2.2.length:Int) - 1 then nth (t:=.int) x.2.2.2.2.2.2.2 (gq x p).1.toNat else -1
theorem P0 (x:bk) (p:DP) (hp:bj p=true) (hn:x.2.2.2.2.2.2.2.length<=1048576):Fn prog 139 [⟨aP,x⟩,⟨ax,p⟩] false [⟨.int,xh x p⟩]:=by
 have c1:=yl x p hp
 unfold xh
 generalize gq x p=n at *
 obtain⟨n1,n2⟩:=n
 obtain⟨hd,o,⟨⟨b1,b2⟩,⟨b3,b4⟩⟩,a,C,W,D,T⟩:=x
 obtain⟨p1,p2⟩:=p
 dsimp only at *
 have c2:=dH n1 0 ((T.length:Int) - 1)
 by_cases g:0<=n1/\n1<=(T.length:Int) - 1
 ·rw[aj g] at c2
  rw[if_pos g]
  refine fe func139 ntmps139 results139 fun hwf=>?_
  refine Cz c1 ?_
  refine cw c2 ?_
  all_goals exact Fz
 ·rw[ak g] at c2
  rw[if_neg g]
  refine fe func139 ntmps139 results139 fun hwf=>?_
  refine Cz c1 ?_
  refine cw c2 ?_
  all_goals exact Fz
def mC (T:List Int):Nat:=(Lib.compact (T.mergeSort mS)).length
theorem qp (l:List Int) (h0:0 < l.length) (hn:l.length<=1000000000):xt prog 70 [⟨aq,l⟩] 3 .int l:=by
 refine pz bK bA func70 rfl rfl _ ntmps70 _ results70 ah fun hwf=>?_
 refine Nz ?_
 refine kT.CA (by intro e; rw[e] at h0; simp at h0) ?_
 refine Sz ?_
 exact⟨0,1,rfl,rfl⟩
theorem wF (x:bk) (hn:x.2.2.2.2.2.2.2.length<=1048576):Fn prog 136 [⟨aP,x⟩] false [⟨.int,(mC x.2.2.2.2.2.2.2:Int)⟩]:=by
 obtain⟨hd,o,⟨⟨b1,b2⟩,⟨b3,b4⟩⟩,a,C,W,D,T⟩:=x
 dsimp only at *
 have hn:T.length<=1000000000:=le_trans hn ae
 rcases Nat.eq_zero_or_pos T.length with h0|h0
 ·obtain rfl:T=[]:=List.eq_nil_of_length_eq_zero h0
  have c1:=jU [] ah
  have c2:=Hz
  have c3:=Lc
  have e:mC ([]:List Int)=0:=by simp[mC,Lib.compact,Lib.compactUpTo]
  rw[e]
  refine fe func136 ntmps136 results136 fun hwf=>?_
  refine Cz c1 ?_
  refine cw c2 ?_
  refine Sz ?_
  refine cw c3 ?_
  all_goals exact Fz
 ·have c1:=qp T h0 hn
  have c2:=ry T hn
  have c3:=pe (T.mergeSort mS) (by rw[length_mergeSort]; exact hn)
  unfold mC
  refine fe func136 ntmps136 results136 fun hwf=>?_
  refine Sz ?_
  refine aO.g (c1) ?_
  refine Sz ?_
  refine aO.r (k:=1) (ver:=0) (o:=true) (c2) ?_
  refine Sz ?_
  refine aO.r (k:=1) (ver:=0) (o:=true) (c3) ?_
  all_goals exact Fz
abbrev Cj:Ty:=.prod cY (.prod (.slice aP) (.prod aq (.ext .sS .int)))
def ee (S:List bk):Nat->Nat
 | 0=>0
 | k+1=>ee S k+mC (nth (t:=aP) S k).2.2.2.2.2.2.2
theorem uz (T:List Int):mC T<=T.length:=by
 have:=Bm (T.mergeSort mS)
 rw[length_mergeSort] at this
 exact this
theorem yp {S:List bk} (hS:∀x ∈ S,x.2.2.2.2.2.2.2.length<=1048576):∀k,k<=S.length->ee S k<=1048576 * k
 | 0,_=>le_refl _
 | k+1,h=>by
  have h1:=yp hS k J
  have h2:=uz (nth (t:=aP) S k).2.2.2.2.2.2.2
  have h3:=hS _ (aS (t:=aP) (i:=k) J)
  rw[ee]; omega
theorem tJ (s:dG) (S:List bk) (op:List Int) (h:Nat) (hh:h<=S.length) (hl:S.length<=100) (hS:∀x ∈ S,x.2.2.2.2.2.2.2.length<=1048576):Fn prog 64 [⟨Cj,(s,S,op,some (0:Int))⟩,⟨.int,(h:Int)⟩] false [⟨.int,(ee S h:Int)⟩]:=by
 have hfl:=yp hS
 obtain⟨⟨a1,a2⟩,⟨b1,b2⟩,r,ob,tb⟩:=s
 have htl:(S.take h).length=h:=by rw[length_take]; omega
 refine fe func64 ntmps64 results64 fun hwf=>?_
 refine Sz ?_
 refine aF.intro _ _ _ (fun k:Nat=>⟨[(5,.sc (.int .i64 (ee S k:Nat))),(11,.sl aP (S.take h)),(12,.sc (.int .i64 h)),(13,.sc (.int .i64 k))],[]⟩) (fun k=>k<=h) (fun k=>h - k) 0 ?_ (zero_le _) ?_
 ·exact WK
 ·rintro k hk
  have hk1:=hfl k J
  have hk2:=hfl (k+1)
  refine Nz ?_
  refine ao ?_ ?_<;>intro hA
  ·have hkS:k < S.length:=J
   have e:nth (t:=aP) (S.take h) k=nth (t:=aP) S k:=by
    rw[aM (t:=aP) J,aM (t:=aP) hkS,List.getElem_take]
   have hx:=hS _ (aS (t:=aP) hkS)
   have c1:=wF _ hx
   have hc:=uz (nth (t:=aP) S k).2.2.2.2.2.2.2
   have e2:((ee S (k+1):Nat):Int)=(ee S k:Nat)+(mC (nth (t:=aP) S k).2.2.2.2.2.2.2:Nat):=by rw[ee]; omega
   refine Sz ?_
   rw[e]
   refine Cz c1 ?_
   refine az.mk (k+1) ?_ J J
   rw[e2]
   exact WK
  ·obtain rfl:k=h:=J
   all_goals exact Fz
theorem Eo (s:dG) (S:List bk) (op:List Int) (hl:S.length<=100) (hS:∀x ∈ S,x.2.2.2.2.2.2.2.length<=1048576):Fn prog 124 [⟨Cj,(s,S,op,some (0:Int))⟩] false [⟨.int,(ee S S.length:Int)⟩]:=by
 have c1:=tJ s S op S.length (le_refl _) hl hS
 obtain⟨⟨a1,a2⟩,⟨b1,b2⟩,r,ob,tb⟩:=s
 refine fe func124 ntmps124 results124 fun hwf=>?_
 refine Sz ?_
 refine cw c1 ?_
 all_goals exact Fz
def ic (S:List bk) (h:Nat) (p:DP):Int:=if xh (nth (t:=aP) S h) p=-1 then -1 else (ee S h:Int)+xh (nth (t:=aP) S h) p
theorem l5 (s:dG) (S:List bk) (op:List Int) (h:Nat) (p:DP) (hp:bj p=true) (hh:h < S.length) (hl:S.length<=100) (hS:∀x ∈ S,x.2.2.2.2.2.2.2.length<=1048576) (hb:(xh (nth (t:=aP) S h) p).natAbs<=1048576):Fn prog 60 [⟨Cj,(s,S,op,some (0:Int))⟩,⟨bu,((h:Int),p)⟩] false [⟨.int,ic S h p⟩]:=by
 have c0:=dH (h:Int) 0 ((S.length:Int) - 1)
 rw[aj J] at c0
 have c1:=P0 (nth (t:=aP) S h) p hp (hS _ (aS (t:=aP) hh))
 have c2:=tJ s S op h J hl hS
 have hfr:=yp hS h J
 obtain⟨⟨a1,a2⟩,⟨b1,b2⟩,r,ob,tb⟩:=s
 obtain⟨p1,p2⟩:=p
 unfold ic
 generalize xh (nth (t:=aP) S h) (p1,p2)=n at *
 generalize hfe:ee S h=m at *
 refine fe func60 ntmps60 results60 fun hwf=>?_
 refine Cz c0 ?_
 refine cw c1 ?_
 refine Sz ?_
 refine ao ?_ ?_<;>intro hA
 ·rw[if_pos hA]
  all_goals exact Fz
 ·rw[if_neg hA]
  refine Sz ?_
  refine cw c2 ?_
  all_goals exact Fz
def fu (k ver:Nat):List (List Int)->List AV
 | []=>[]
 | _ :: L=>.row k ver :: fu (k+1) ver L
def iq (e:TypeId) (k ver:Nat):List (List Int)->Mm
 | []=>[]
 | l :: L=>(k,.row e .int ver true l) :: iq e (k+1) ver L
theorem eK {ver:Nat}:∀{L:List (List Int)} {k:Nat},(fu k ver L).length=L.length
 | [],_=>rfl
 | _ :: L,k=>by rw[fu,length_cons,length_cons,eK]
theorem gG {ver:Nat}:∀{L:List (List Int)} {k i:Nat},i < L.length->(fu k ver L)[i]? = some (.row (i+k) ver)
 | [],_,_,h=>by cases h
 | _ :: L,k,0,_=>by rw[fu,zero_add]; rfl
 | _ :: L,k,i+1,h=>by
  rw[fu,List.getElem?_cons_succ,gG (by simpa using h),show i+(k+1)=i+1+k from J]
theorem vi {e:TypeId} {ver:Nat}:∀{L:List (List Int)} {k i:Nat} (h:i < L.length),look (iq e k ver L) (i+k)=some (.row e .int ver true L[i])
 | [],_,_,h=>by cases h
 | l :: L,k,0,_=>by rw[iq,zero_add]; exact aD ..
 | l :: L,k,i+1,h=>by
  rw[iq,aG _ _ J,show i+1+k=i+(k+1) from J,vi (by simpa using h)]; rfl
theorem Ac {e:TypeId} {ver:Nat}:∀{L:List (List Int)} {k j:Nat},k+L.length<=j->look (iq e k ver L) j=none
 | [],_,_,_=>rfl
 | l :: L,k,j,h=>by rw[length_cons] at h; rw[iq,aG _ _ J,Ac J]
theorem Cq {e:TypeId} {ver:Nat}:∀{L:List (List Int)} {k:Nat},(iq e k ver L).map (·.1)=range' k L.length
 | [],_=>rfl
 | l :: L,k=>by rw[iq,map_cons,Cq,length_cons,List.range'_succ]
theorem wa {β:Nat->Nat} {e:TypeId} {ver:Nat}:∀{L:List (List Int)} {k:Nat},bw β (iq e k ver L)=iq e k ver L
 | [],_=>rfl
 | l :: L,k=>by rw[iq,bw,wa]; rfl
def bB (x:Option Nat) (rc:List AV) (e:TypeId) (ver:Nat) (L:List (List Int)):Mm:=(0,.bx x rc) :: (1,.box (fu 2 ver L)) :: iq e 2 ver L
theorem pa {x:Option Nat} {rc:List AV} {e:TypeId} {ver:Nat} {L:List (List Int)}:look (bB x rc e ver L) 0=some (.bx x rc):=rfl
theorem vo {x:Option Nat} {rc:List AV} {e:TypeId} {ver:Nat} {L:List (List Int)}:look (bB x rc e ver L) 1=some (.box (fu 2 ver L)):=rfl
theorem CC {x:Option Nat} {rc:List AV} {e:TypeId} {ver:Nat} {L:List (List Int)} {i:Nat} (h:i < L.length):look (bB x rc e ver L) (i+2)=some (.row e .int ver true L[i]):=by
 unfold bB; rw[aG _ _ J,aG _ _ J,vi h]
theorem Vm {x:Option Nat} {rc:List AV} {e:TypeId} {ver:Nat} {L:List (List Int)} {j:Nat} (h:L.length+2<=j):look (bB x rc e ver L) j=none:=by
 unfold bB; rw[aG _ _ J,aG _ _ J,Ac J]
theorem rG {x:Option Nat} {rc:List AV} {e:TypeId} {ver:Nat} {L:List (List Int)}:(bB x rc e ver L).map (·.1)=range' 0 (L.length+2):=by
 unfold bB
 rw[map_cons,map_cons,Cq,List.range'_succ,List.range'_succ]
theorem Ws {β:Nat->Nat} {x:Option Nat} {rc:List AV} {e:TypeId} {ver:Nat} {L:List (List Int)}:look (bw β (bB x rc e ver L)) 0=some (.bx (some (x.getD (β 0))) rc):=by cases x<;>rfl
theorem OS {β:Nat->Nat} {x:Option Nat} {rc:List AV} {e:TypeId} {ver:Nat} {L:List (List Int)}:look (bw β (bB x rc e ver L)) 1=some (.bx (some (β 1)) (fu 2 ver L)):=rfl
theorem Cp {β:Nat->Nat} {x:Option Nat} {rc:List AV} {e:TypeId} {ver:Nat} {L:List (List Int)} {i:Nat} (h:i < L.length):look (bw β (bB x rc e ver L)) (i+2)=some (.row e .int ver true L[i]):=by
 unfold bB
 rw[bw,bw,wa,aG _ _ J,aG _ _ J,vi h]
theorem JP {β:Nat->Nat}:∀{M:Mm},(bw β M).map (·.1)=M.map (·.1)
 | []=>rfl
 | p :: M=>by rw[bw,map_cons,map_cons,JP]
def sZ (n:Nat):AV->Prop
 | .sc _=>True
 | .sl _ _=>True
 | .row k m=>k=1/\m=n
 | _=>False
theorem A3 {σm τm:Nat->Option ay} {ρ:Nat->Nat} {ba:List Nat} {e:TypeId} {ver:Nat}:∀{L:List (List Int)} {k:Nat},(∀i (h:i < L.length),∃v,σm (ρ (i+k))=some (.row e .int v true L[i]))->sy σm τm ρ ba (iq e k ver L)
 | [],_,_=>trivial
 | l :: L,k,h=>by
  refine⟨?_,A3 fun i hi=>?_⟩
  ·obtain⟨v,hv⟩:=h 0 ah
   rw[zero_add] at hv
   unfold iS
   rw[hv]
   exact⟨rfl,rfl,fun _=>rfl⟩
  ·obtain⟨v,hv⟩:=h (i+1) (by simpa using hi)
   exact⟨v,by rw[show i+(k+1)=i+1+k from J,hv]; rfl⟩
theorem Ig {σm τm:Nat->Option ay} {ba:List Nat} {e:TypeId} {ver:Nat} {cs:List AV} {L:List (List Int)} (hl:cs.length=L.length)
  (hc:∀i (h:i < L.length),∃v,cs[i]? = some (.row (i+2) v)/\σm (i+2)=some (.row e .int v true L[i])) (ht:∀i (h:i < L.length),τm (i+2)=some (.row e .int ver true L[i])):aA (mW σm τm id ba) cs (fu 2 ver L):=by
 have key:∀{cs hs:List AV},cs.length=hs.length->(∀i (h:i < hs.length),∃u,cs[i]? = some u/\mW σm τm id ba u hs[i])->aA (mW σm τm id ba) cs hs:=by
  intro cs
  induction cs with
  | nil=>intro hs h _; cases hs with|nil=>trivial|cons a b=>cases h
  | cons a cs ih =>
   intro hs h hk
   cases hs with
   | nil=>cases h
   | cons b hs =>
    refine⟨?_,ih (by simpa using h) fun i hi=>?_⟩
    ·obtain⟨u,hu,hle⟩:=hk 0 ah
     injection hu with hu; subst hu; exact hle
    ·exact hk (i+1) (by simpa using hi)
 refine key (by rw[hl,eK]) fun i hi=>?_
 rw[eK] at hi
 obtain⟨v,h1,h2⟩:=hc i hi
 refine⟨_,h1,?_⟩
 have e1:=gG (ver:=ver) (k:=2) hi
 rw[(List.getElem?_eq_some_iff.1 e1).2]
 unfold mW
 simp only[ht i hi,h2]
 exact⟨rfl,trivial,trivial⟩
theorem P6 {σ:St} {β:Nat->Nat} {x:Option Nat} {rc:List AV} {e:TypeId} {ver n:Nat} {cs:List AV} {L:List (List Int)} (hrc:∀v ∈ rc,sZ n v)
  (h0:look σ.mem 0=some (.bx (some (x.getD (β 0))) rc)) (h1:look σ.mem 1=some (.bx (some (β 1)) cs)) (hl:cs.length=L.length)
  (hc:∀i (h:i < L.length),∃v,cs[i]? = some (.row (i+2) v)/\look σ.mem (i+2)=some (.row e .int v true L[i])):Wk σ ⟨[],bw β (bB x rc e ver L)⟩:=by
 refine⟨σ,.refl σ,[],?_,trivial,?_⟩
 ·have:((bw β (bB x rc e ver L)).map fun p=>iA [] p.1)=range' 0 (L.length+2):=by
   rw[show (fun p:Nat × ay=>iA [] p.1)=(fun p=>p.1) from rfl,JP,rG]
  rw[this]
  exact List.nodup_range'
 ·have hρ:iA []=id:=rfl
  rw[hρ]
  generalize hrng:(bw β (bB x rc e ver L)).map _=ba
  have hself:aA (mW (look σ.mem) (look (bw β (bB x rc e ver L))) id ba) rc rc:=by
   have:∀{cs:List AV},(∀v ∈ cs,sZ n v)->aA (mW (look σ.mem) (look (bw β (bB x rc e ver L))) id ba) cs cs:=by
    intro cs
    induction cs with
    | nil=>intro _; trivial
    | cons v cs ih =>
     intro h
     refine⟨?_,ih fun u hu=>h u (List.mem_cons_of_mem _ hu)⟩
     have hv:=h v mem_cons_self
     cases v with
     | sc x=>rfl
     | sl t l=>exact .inl ⟨rfl,fun k hk=>by cases hk⟩
     | row k m =>
      obtain⟨rfl,rfl⟩:=hv
      unfold mW
      simp only[OS]
      exact⟨rfl,trivial⟩
     | _=>exact hv.elim
   exact this hrc
  refine⟨?_,?_,?_⟩
  ·show iS _ _ _ _ 0 (ts β 0 (.bx x rc))
   have hp:ts β 0 (.bx x rc)=.bx (some (x.getD (β 0))) rc:=by cases x<;>rfl
   rw[hp]
   unfold iS
   show match look σ.mem 0 with|some (.bx x0 cs0)=>x0=some (x.getD (β 0))/\aA _ cs0 rc|_=>False
   rw[h0]
   exact⟨rfl,hself⟩
  ·show iS _ _ _ _ 1 (.bx (some (β 1)) (fu 2 ver L))
   unfold iS
   show match look σ.mem 1 with|some (.bx x0 cs0)=>x0=some (β 1)/\aA _ cs0 (fu 2 ver L)|_=>False
   rw[h1]
   exact⟨rfl,Ig hl hc fun i hi=>Cp hi⟩
  ·show sy _ _ _ _ (bw β (iq e 2 ver L))
   rw[wa]
   exact A3 fun i hi=>⟨_,(hc i hi).choose_spec.2⟩
theorem D4 {α:Type} {X:List α} {j:Nat} {v:α} (h:j < X.length):X.take j++[v]++X.drop (j+1)=X.set j v:=by
 rw[List.set_eq_take_append_cons_drop,if_pos h,List.append_assoc]; rfl
def zM (a b q:Nat):Nat->Nat
 | 0=>0
 | 1=>1
 | 2=>a
 | 3=>b
 | 4=>q
 | 5=>q+1
 | n=>n
theorem LH {a b q:Nat} (h1:2<=a) (h2:a < q) (h3:2<=b) (h4:b < q) (h5:a ≠ b):∀x y,x < 6->y < 6->zM a b q x=zM a b q y->x=y:=by
 have key:∀x,x < 6->(x=0/\zM a b q x=0)\/(x=1/\zM a b q x=1)\/(x=2/\zM a b q x=a)\/(x=3/\zM a b q x=b)\/(x=4/\zM a b q x=q)\/(x=5/\zM a b q x=q+1):=by
  intro x hx
  match x,hx with
  | 0,_=>exact .inl ⟨rfl,rfl⟩
  | 1,_=>exact .inr (.inl ⟨rfl,rfl⟩)
  | 2,_=>exact .inr (.inr (.inl ⟨rfl,rfl⟩))
  | 3,_=>exact .inr (.inr (.inr (.inl ⟨rfl,rfl⟩)))
  | 4,_=>exact .inr (.inr (.inr (.inr (.inl ⟨rfl,rfl⟩))))
  | 5,_=>exact .inr (.inr (.inr (.inr (.inr ⟨rfl,rfl⟩))))
 intro x y hx hy h
 rcases key x hx with ⟨e,k⟩|⟨e,k⟩|⟨e,k⟩|⟨e,k⟩|⟨e,k⟩|⟨e,k⟩<;>rcases key y hy with ⟨e2,k2⟩|⟨e2,k2⟩|⟨e2,k2⟩|⟨e2,k2⟩|⟨e2,k2⟩|⟨e2,k2⟩<;>omega
theorem E5 {f:Nat->Nat} {N:Nat} (hf:∀x y,x < N->y < N->f x=f y->x=y) {a b:List Nat} (ha:a.all (fun x=>decide (x < N))=true) (hb:b.all (fun x=>decide (x < N))=true):inter (a.map f) (b.map f)=inter a b:=by
 unfold inter
 rw[List.any_map]
 apply Bool.eq_iff_iff.2
 simp only[any_eq_true,Function.comp,List.contains_iff_mem]
 have ha:=all_eq_true.1 ha
 have hb:=all_eq_true.1 hb
 constructor
 ·rintro⟨x,hx,h⟩
  obtain⟨y,hy,e⟩:=mem_map.1 h
  have:=hf y x (of_decide_eq_true (hb y hy)) (of_decide_eq_true (ha x hx)) e
  subst this
  exact⟨y,hx,hy⟩
 ·rintro⟨x,hx,h⟩
  exact⟨x,hx,mem_map.2 ⟨x,h,rfl⟩⟩
theorem HZ (f:Nat->Nat) (N:Nat) (hf:∀x y,x < N->y < N->f x=f y->x=y) {ops:List Oper} (tr:Tr) (hN:(tr.all fun t=>t.1.all (fun x=>decide (x < N)) && t.2.all (fun x=>decide (x < N)))=true) (h:mH ops tr=true):mH ops (tr.map fun t=>(t.1.map f,t.2.map f))=true:=by
 unfold mH at h ⊢
 rw[Bool.and_eq_true] at h ⊢
 refine⟨h.1,?_⟩
 have hz:ops.zip (tr.map fun t=>(t.1.map f,t.2.map f))=(ops.zip tr).map fun p=>(p.1,(p.2.1.map f,p.2.2.map f)):=by
  rw[List.zip_map_right]; rfl
 have hN:=all_eq_true.1 hN
 have hmem:∀p ∈ (ops.zip tr).zipIdx,(p.1.2.1.all (fun x=>decide (x < N))=true)/\(p.1.2.2.all (fun x=>decide (x < N))=true):=by
  rintro⟨⟨o,t⟩,k⟩ hp
  have h1:=(List.of_mem_zip (List.fst_mem_of_mem_zipIdx hp)).2
  have:=hN t h1
  rwa [Bool.and_eq_true] at this
 rw[hz,List.zipIdx_map]
 rw[List.all_map,all_eq_true]
 intro y hy
 have hy2:=all_eq_true.1 h.2 y hy
 show List.all _ _=true
 rw[List.all_map,all_eq_true]
 intro x hx
 have hx2:=all_eq_true.1 hy2 x hx
 obtain⟨a1,a2⟩:=hmem x hx
 obtain⟨b1,b2⟩:=hmem y hy
 have e:kE ops x.1.1 y.1.1 (x.1.2.1.map f,x.1.2.2.map f) (y.1.2.1.map f,y.1.2.2.map f)=kE ops x.1.1 y.1.1 x.1.2 y.1.2:=by
  unfold kE
  dsimp only
  rw[E5 hf a1 b2,E5 hf b1 a2]
 show (!decide (x.2 < y.2) || !kE ops x.1.1 y.1.1 (x.1.2.1.map f,x.1.2.2.map f) (y.1.2.1.map f,y.1.2.2.map f) || ((ml ops).getD y.2 0).testBit x.2)=true
 rw[e]
 exact hx2
theorem zT {e:TypeId} {ver:Nat}:∀{L:List (List Int)} {k:Nat},fresh (iq e k ver L)=if L.length=0 then 0 else k+L.length
 | [],_=>rfl
 | l :: L,k=>by
  show max (k+1) (fresh (iq e (k+1) ver L))=_
  rw[zT,length_cons]
  split<;>split<;>omega
theorem FJ {β:Nat->Nat}:∀{M:Mm},fresh (bw β M)=fresh M
 | []=>rfl
 | p :: M=>by
  show max (p.1+1) (fresh (bw β M))=max (p.1+1) (fresh M)
  rw[FJ]
theorem yg {x:Option Nat} {rc:List AV} {e:TypeId} {ver:Nat} {L:List (List Int)}:fresh (bB x rc e ver L)=L.length+2:=by
 show max (0+1) (max (1+1) (fresh (iq e 2 ver L)))=_
 rw[zT]
 split<;>omega
@[go_sem] def k9 (s:dG) (S:List bk) (op:List Int) (n:Nat):List AV:=[.sc (.int .i64 s.1.1),.sc (.int .i64 s.1.2),.sc (.int .i64 s.2.1.1),.sc (.int .i64 s.2.1.2),.sl an s.2.2.1,.sl (.slice an) s.2.2.2.1,.sl an s.2.2.2.2,.sl aP S,.sl .int op,.row 1 n]
theorem j8 {s:dG} {S:List bk} {op:List Int} {n:Nat}:∀v ∈ k9 s S op n,sZ n v:=by
 intro v hv
 simp only[k9,mem_cons,mem_nil_iff,or_false] at hv
 rcases hv with rfl|rfl|rfl|rfl|rfl|rfl|rfl|rfl|rfl|rfl<;>first|trivial|exact⟨rfl,rfl⟩
def sg (L:List (List Int)) (i j:Nat):List (List Int):=(L.set i (nth (t:=aq) L i++[(j:Int)])).set j (nth (t:=aq) L j++[(i:Int)])
theorem Va (x:Option Nat) (s:dG) (S:List bk) (op:List Int) (L:List (List Int)) (i j:Nat) (hi:i < L.length) (hj:j < L.length) (hij:i ≠ j) (hn:∀l ∈ L,l.length<=1000000) (hL:L.length<=1000000000):n0 prog 125 [.ptr 0 0,.sc (.int .i64 (i:Int)),.sc (.int .i64 (j:Int))] (bB x (k9 s S op L.length) 3 0 L) (.dY []) (bB x (k9 s S op L.length) 3 1 (sg L i j)):=by
 refine dq bK bA func125 rfl rfl _ ntmps125 _ results125 ah (by first|exact .inl rfl|exact .inr ⟨_,rfl⟩) fun β=>?_
 generalize hM:bw β (bB x (k9 s S op L.length) 3 0 L)=M
 have hq:fresh M=L.length+2:=by rw[<-hM,FJ,yg]
 have m0:look M 0=some (.bx (some (x.getD (β 0))) (k9 s S op L.length)):=by rw[<-hM]; exact Ws
 have m1:look M 1=some (.bx (some (β 1)) (fu 2 0 L)):=by rw[<-hM]; exact OS
 have mi:look M (i+2)=some (.row 3 .int 0 true (nth (t:=aq) L i)):=by rw[<-hM,Cp hi,aM (t:=aq) hi]
 have mj:look M (j+2)=some (.row 3 .int 0 true (nth (t:=aq) L j)):=by rw[<-hM,Cp hj,aM (t:=aq) hj]
 have ci:(fu 2 0 L).getD i .ke=.row (i+2) 0:=by rw[getD_eq_getElem?_getD,gG hi]; rfl
 have cj:(fu 2 0 L).getD j .ke=.row (j+2) 0:=by rw[getD_eq_getElem?_getD,gG hj]; rfl
 have cl:(fu 2 0 L).length=L.length:=eK
 have ni:=hn _ (aS (t:=aq) hi)
 have nj:=hn _ (aS (t:=aq) hj)
 have gi:decide (0<=(i:Int))=true:=aj J
 have gj:decide (0<=(j:Int))=true:=aj J
 have q1:i+2+1<=L.length+2:=J
 have q2:j+2+1<=L.length+2:=J
 have e1:(i+2 == 0)=false:=by simp
 have e2:(j+2 == 0)=false:=by simp
 have e3:(i+2 == 1)=false:=by simp
 have e4:(j+2 == 1)=false:=by simp
 have e5:(0 == i+2)=false:=by simp
 have e6:(0 == j+2)=false:=by simp
 have e7:(1 == i+2)=false:=by simp
 have e8:(1 == j+2)=false:=by simp
 have e9:(i+2 == j+2)=false:=by simp; omega
 have f1:(j+2 == i+2)=false:=by simp; omega
 have f2:(0 == L.length+2)=false:=by simp
 have f3:(1 == L.length+2)=false:=by simp
 have f4:(i+2 == L.length+2)=false:=by simp; omega
 have f5:(j+2 == L.length+2)=false:=by simp; omega
 have f6:(0 == L.length+2+1)=false:=by simp
 have f7:(1 == L.length+2+1)=false:=by simp
 have f8:(i+2 == L.length+2+1)=false:=by simp; omega
 have f9:(j+2 == L.length+2+1)=false:=by simp; omega
 have q0:¬ (L.length+2+1<=L.length+2):=J
 have q3:i+2+1<=L.length+2+1:=J
 have q4:j+2+1<=L.length+2+1:=J
 have q5:¬ (L.length+2+1+1<=L.length+2+1):=J
 have q6:(i+2=L.length+2)=False:=by simp; omega
 have q7:(j+2=L.length+2)=False:=by simp; omega
 have q8:(i+2=L.length+2+1)=False:=by simp; omega
 have q9:(j+2=L.length+2+1)=False:=by simp; omega
 generalize hli:nth (t:=aq) L i=li at *
 generalize hlj:nth (t:=aq) L j=lj at *
 generalize hc:fu 2 0 L=cs at *
 generalize hka:i+2=ka at *
 generalize hkb:j+2=kb at *
 generalize hqq:L.length+2=q at *
 try simp (maxSteps:=9^9) only[go_sem,m0,m1,gi,gj,mi,mj,ci,cj,cl,hq,e1,e2,e3,e4,e5,e6,e7,e8,e9,f1,f2,f3,f4,f5,f6,f7,f8,f9,q1,q2,q0,q3,q4,q5,q6,q7,q8,q9,if_true,if_false,Nat.mul_one,length_take,length_drop]
 repeat (refine And.intro J ?_)
 refine And.intro (HZ (zM ka kb q) 6 (LH J J J J J) [([],[]),([],[]),([],[]),([],[0]),([],[]),([],[]),([],[]),([],[]),([],[0]),([],[]),([],[]),([],[]),([],[]),([],[0]),([],[]),([],[1]),([],[1]),([],[]),([4],[4]),([2],[2,2,4]),([],[]),([],[]),([],[]),([],[0]),([],[]),([],[1]),([],[1]),([],[]),([5],[5]),([3],[3,3,5]),([],[1]),([1],[1,1]),([],[1]),([1],[1,1])] rfl ai) ?_
 subst hka hkb hqq hc hli hlj
 have hl:(sg L i j).length=L.length:=by unfold sg; rw[length_set,length_set]
 refine P6 (j8 (n:=L.length)) (cs:=((fu 2 0 L).set i (.row (i+2) 1)).set j (.row (j+2) 1)) ?_ ?_ ?_ ?_
 ·show look (_ :: _ :: _ :: _ :: _ :: _ :: M) 0=_
  rw[aG _ _ J,aG _ _ J,aG _ _ J,aG _ _ J,aG _ _ J,aG _ _ J]
  exact m0
 ·show look (_ :: _ :: _ :: _ :: _ :: _ :: M) 1=_
  rw[aD,D4 (X:=fu 2 0 L) (j:=i) (by rw[eK]; exact hi),D4 (by rw[length_set,eK]; exact hj)]
 ·rw[length_set,length_set,eK,hl]
 ·intro t ht
  have htL:t < L.length:=by rw[<-hl]; exact ht
  have hg:((sg L i j)[t]'ht)=if j=t then nth (t:=aq) L j++[(i:Int)] else if i=t then nth (t:=aq) L i++[(j:Int)] else L[t]:=by
   have:(sg L i j)[t]'ht=((L.set i (nth (t:=aq) L i++[(j:Int)])).set j (nth (t:=aq) L j++[(i:Int)]))[t]'(by rw[length_set,length_set]; exact htL):=rfl
   rw[this,List.getElem_set,List.getElem_set]
  rw[hg]
  by_cases c1:j=t
  ·subst c1
   refine⟨1,?_,?_⟩
   ·rw[getElem?_set,if_pos rfl,if_pos (by rw[length_set,eK]; exact hj)]
   ·show look (_ :: _ :: _ :: _ :: _ :: _ :: M) (j+2)=_
    rw[if_pos rfl,aG _ _ J,aG _ _ J,aD]
  ·rw[if_neg c1]
   by_cases c2:i=t
   ·subst c2
    refine⟨1,?_,?_⟩
    ·rw[getElem?_set,if_neg c1,getElem?_set,if_pos rfl,if_pos (by rw[eK]; exact hi)]
    ·show look (_ :: _ :: _ :: _ :: _ :: _ :: M) (i+2)=_
     rw[if_pos rfl,aG _ _ J,aG _ _ J,aG _ _ J,aG _ _ J,aD]
   ·rw[if_neg c2]
    refine⟨0,?_,?_⟩
    ·rw[getElem?_set,if_neg c1,getElem?_set,if_neg c2,gG htL]
    ·show look (_ :: _ :: _ :: _ :: _ :: _ :: M) (t+2)=_
     rw[aG _ _ J,aG _ _ J,aG _ _ J,aG _ _ J,aG _ _ J,aG _ _ J,<-hM]
     exact Cp htL
theorem TA (x:Option Nat) (s:dG) (S:List bk) (op:List Int) (L:List (List Int)) (a b:Int) (h:a < 0\/b < 0):n0 prog 125 [.ptr 0 0,.sc (.int .i64 a),.sc (.int .i64 b)] (bB x (k9 s S op L.length) 3 0 L) (.dY []) (bB x (k9 s S op L.length) 3 1 L):=by
 refine dq bK bA func125 rfl rfl _ ntmps125 _ results125 ah (by first|exact .inl rfl|exact .inr ⟨_,rfl⟩) fun β=>?_
 have fin:∀t,Wk ⟨t,bw β (bB x (k9 s S op L.length) 3 0 L)⟩ ⟨[],bw β (bB x (k9 s S op L.length) 3 1 L)⟩:=fun t=>P6 (j8 (n:=L.length)) Ws OS eK fun i hi=>⟨0,gG hi,Cp hi⟩
 generalize bw β (bB x (k9 s S op L.length) 3 0 L)=M at *
 generalize bw β (bB x (k9 s S op L.length) 3 1 L)=M' at *
 by_cases g:a < 0
 ·have ga:decide (0<=a)=false:=ak J
  refine Uz ga ?_
  exact fin _
 ·have ga:decide (0<=a)=true:=aj J
  have gb:decide (0<=b)=false:=ak J
  refine tW ga gb ?_
  exact fin _
theorem xn {o:List Int} {i j:Nat} {x:Int} (hi:i < o.length):ni (o.set i x) j=if i=j then x else ni o j:=by
 show (o.set i x).getD j 0=if i=j then x else o.getD j 0
 rw[getD_eq_getElem?_getD,getElem?_set,getD_eq_getElem?_getD]
 by_cases e:i=j
 ·subst e; simp[hi]
 ·simp[e]
def Gn (nx:Int) (o o':List Int):Prop:=o'.length=o.length/\∀i,ni o' i=ni o i\/(ni o i < 0/\ni o' i=nx)
variable {nx:Int} {ds:List DV} {o:List Int}
theorem Gn.refl (nx:Int) (o:List Int):Gn nx o o:=⟨rfl,fun _=>.inl rfl⟩
theorem Gn.trans {a b c:List Int} (h:Gn nx a b) (k:Gn nx b c):Gn nx a c:=⟨k.1.trans h.1,fun i=>by
 rcases k.2 i with h1|⟨h1,h2⟩<;>rcases h.2 i with h3|⟨h3,h4⟩
 ·exact .inl (h1.trans h3)
 ·exact .inr ⟨h3,h1.trans h4⟩
 ·exact .inr ⟨J,h2⟩
 ·exact .inr ⟨h3,h2⟩⟩
theorem Gn.set {i:Nat} (hi:i < o.length) (h:ni o i < 0):Gn nx o (o.set i nx):=⟨length_set,fun j=>by
 rw[xn hi]
 split
 ·rename_i e; subst e; exact .inr ⟨h,rfl⟩
 ·exact .inl rfl⟩
theorem aaJ {d e:DV} {s:List Int × Bool} (he:e.1.toNat < s.1.length):Gn nx s.1 (Rj nx d s e).1:=by
 unfold Rj
 split
 ·rename_i h; exact Gn.set he h.2
 ·exact Gn.refl _ _
theorem RO {d:DV} {s:List Int × Bool} (hd:∀e ∈ ds,e.1.toNat < s.1.length):∀j,j<=ds.length->Gn nx s.1 (wD nx d ds s j).1
 | 0,_=>Gn.refl _ _
 | j+1,hj=>by
  have h:=RO (d:=d) hd j J
  exact h.trans (aaJ (by rw[h.1]; exact hd _ (aU (i:=j) J)))
theorem RR (hd:∀e ∈ ds,e.1.toNat < o.length):∀i,i<=ds.length->Gn nx o (lS nx ds o i).1
 | 0,_=>Gn.refl _ _
 | i+1,hi=>by
  have h:=RR hd i J
  show Gn nx o (QE nx ds (lS nx ds o i) (nth (t:=an) ds i)).1
  unfold QE
  split
  ·exact h.trans (RO (by rw[h.1]; exact hd) _ (le_refl _))
  ·exact h
theorem ZR (hd:∀e ∈ ds,e.1.toNat < o.length) (hn:0<=nx):Gn nx o (tI nx ds o):=by
 induction hN:kZ o using Nat.strongRecOn generalizing o with
 | _ N ih =>
  have hR:=BS hd hn
  have hg:Gn nx o (qo nx ds o).1:=RR hd _ (le_refl _)
  cases hb:(qo nx ds o).2
  ·rw[Oa hb]; exact hg
  ·rw[Oy hd hn hb]
   exact hg.trans (ih _ (hN ▸ hR.2.2 hb) (by rw[hR.1]; exact hd) rfl)
structure Gi (o:List Int) (next:Int):Prop where
 ba:∀i < o.length,ni o i=-1\/(0<=ni o i/\ni o i < next)
 all:∀j,0<=j->j < next->∃i < o.length,ni o i=j
theorem RD {n:Nat} (hd:∀e ∈ ds,e.1.toNat < n):∀k,k<=n->Gi (ki n ds k).1 (ki n ds k).2
 | 0,_=>by
  refine⟨fun i hi=>.inl ?_,fun j h1 h2=>?_⟩
  ·have hi:i < (replicate n (-1:Int)).length:=hi
   show (replicate n (-1:Int)).getD i 0=-1
   rw[length_replicate] at hi
   rw[getD_eq_getElem?_getD,List.getElem?_replicate,if_pos hi]; rfl
  ·have h2:j < 0:=h2
   omega
 | k+1,hk=>by
  obtain⟨h1,h2⟩:=RD hd k J
  obtain⟨l1,l2,_⟩:=w5 hd k
  show Gi (F1 ds (ki n ds k) k).1 (F1 ds (ki n ds k) k).2
  unfold F1
  generalize ki n ds k=s at *
  obtain⟨o,nx⟩:=s
  dsimp only at *
  split
  ·exact⟨h1,h2⟩
  ·rename_i hneg
   have hko:k < o.length:=J
   have g1:Gn nx o (o.set k nx):=Gn.set hko J
   have g2:Gn nx (o.set k nx) (tI nx ds (o.set k nx)):=ZR (by rw[length_set,l1]; exact hd) l2
   have g:=g1.trans g2
   refine⟨fun i hi=>?_,fun j hj1 hj2=>?_⟩
   ·dsimp only
    rcases g.2 i with e|⟨_,e⟩
    ·rcases h1 i (by rw[<-g.1]; exact hi) with e2|⟨e2,e3⟩
     ·exact .inl (e.trans e2)
     ·exact .inr (by rw[e]; omega)
    ·exact .inr (by rw[e]; omega)
   ·dsimp only at hj2 ⊢
    by_cases hj:j < nx
    ·obtain⟨i,hi,e⟩:=h2 j hj1 hj
     refine⟨i,by rw[g.1]; exact hi,?_⟩
     rcases g.2 i with e2|⟨e2,_⟩
     ·rw[e2]; exact e
     ·omega
    ·obtain rfl:j=nx:=J
     refine⟨k,by rw[g.1]; exact hko,?_⟩
     have e1:ni (o.set k j) k=j:=by rw[xn hko,if_pos rfl]
     rcases g2.2 k with e2|⟨_,e2⟩
     ·rw[e2]; exact e1
     ·exact e2
theorem M1:∀(m:Nat) (l:List Int),(∀j:Nat,j < m->(j:Int) ∈ l)->m<=l.length
 | 0,_,_=>zero_le _
 | m+1,l,h=>by
  have hm:=h m J
  have h1:=M1 m (l.erase (m:Int)) fun j hj=>(List.mem_erase_of_ne J).2 (h j J)
  rw[List.length_erase_of_mem hm] at h1
  have:=length_pos_of_mem hm
  omega
theorem zP {l:List Int} {x:Int} (h:x ∈ l):x ∈ Lib.compact l:=by
 obtain⟨i,hi,rfl⟩:=getElem_of_mem h
 unfold Lib.compact Lib.compactUpTo
 induction i with
 | zero=>
  refine mem_map.2 ⟨0,mem_filter.2 ⟨mem_range.2 hi,Lib.keeps_lt_one _ 0 J⟩,?_⟩
  rw[getElem!_pos l.toArray 0 (by simpa using hi)]; rfl
 | succ i ih =>
  by_cases hk:l.toArray[i+1]! = l.toArray[i+1 - 1]!
  ·have:=ih J (getElem_mem _)
   rw[getElem!_pos l.toArray (i+1) (by simpa using hi),getElem!_pos l.toArray (i+1 - 1) (by simp; omega)] at hk
   have hk:l[i+1]=l[i]:=hk
   rw[hk]; exact this
  ·refine mem_map.2 ⟨i+1,mem_filter.2 ⟨mem_range.2 hi,Lib.keeps_pos hk⟩,?_⟩
   rw[getElem!_pos l.toArray (i+1) (by simpa using hi)]; rfl
theorem Gi.lt {o:List Int} {nx:Int} (h:Gi o nx):∀v ∈ o,v=-1\/(0<=v/\v < (mC o:Int)):=by
 intro v hv
 obtain⟨i,hi,rfl⟩:=getElem_of_mem hv
 have e:ni o i=o[i]:=by show o.getD i 0=_; rw[getD_eq_getElem?_getD,getElem?_eq_getElem hi]; rfl
 rcases h.ba i hi with h1|⟨h1,h2⟩
 ·exact .inl (e.symm.trans h1)
 ·refine .inr ⟨J,?_⟩
  have hp:=M1 nx.toNat (Lib.compact (o.mergeSort mS)) fun j hj=>zP ((mergeSort_perm _ _).mem_iff.2 (by
   obtain⟨q,hq,eq⟩:=h.all j J J
   rw[<-eq]
   show o.getD q 0 ∈ o
   rw[getD_eq_getElem?_getD,getElem?_eq_getElem hq]
   exact getElem_mem hq))
  have:mC o=(Lib.compact (o.mergeSort mS)).length:=rfl
  omega
theorem ZI {n:Nat} (hd:∀e ∈ ds,e.1.toNat < n):∀v ∈ vL n ds,v=-1\/(0<=v/\v < (mC (vL n ds):Int)):=(RD hd n (le_refl _)).lt
@[go_sem] theorem ado:kV prog 31=some 24:=by kernel_rfl
def rW (L:List (List Int)) (a b:Int):List (List Int):=if 0<=a/\0<=b then sg L a.toNat b.toNat else L
theorem A6 {L:List (List Int)} {a b:Int}:(rW L a b).length=L.length:=by
 unfold rW sg
 split
 ·rw[length_set,length_set]
 ·rfl
theorem Vh {L:List (List Int)} {i j m:Nat} (hi:i < L.length) (hj:j < L.length) (h:∀l ∈ L,l.length<=m):∀l ∈ sg L i j,l.length<=m+1:=by
 intro l hl
 unfold sg at hl
 rcases List.mem_or_eq_of_mem_set hl with hl|rfl
 ·rcases List.mem_or_eq_of_mem_set hl with hl|rfl
  ·exact Nat.le_succ_of_le (h l hl)
  ·have:=h _ (aS (t:=aq) hi)
   rw[length_append,length_singleton]; omega
 ·have:=h _ (aS (t:=aq) hj)
  rw[length_append,length_singleton]; omega
structure sV (S:List bk):Prop where
 four:S.length=4
 len:∀x ∈ S,x.2.2.2.2.2.2.2.length<=1048576
 num:∀x ∈ S,∀v ∈ x.2.2.2.2.2.2.2,v=-1\/(0<=v/\v < (mC x.2.2.2.2.2.2.2:Int))
theorem ME {S:List bk} (hS:sV S) {h:Nat} (hh:h < 4) (p:DP):xh (nth (t:=aP) S h) p=-1\/(0<=xh (nth (t:=aP) S h) p/\xh (nth (t:=aP) S h) p < (mC (nth (t:=aP) S h).2.2.2.2.2.2.2:Int)):=by
 have hx:=aS (t:=aP) (l:=S) (i:=h) (by rw[hS.four]; exact hh)
 unfold xh
 split
 ·rename_i hc
  exact hS.num _ hx _ (aS (t:=.int) J)
 ·exact .inl rfl
theorem uC {S:List bk} (hS:sV S) {h:Nat} (hh:h < 4) (p:DP):(xh (nth (t:=aP) S h) p).natAbs<=1048576:=by
 have hx:=hS.len _ (aS (t:=aP) (l:=S) (i:=h) (by rw[hS.four]; exact hh))
 have hc:=uz (nth (t:=aP) S h).2.2.2.2.2.2.2
 rcases ME hS hh p with e|⟨e1,e2⟩<;>omega
theorem mF (S:List bk):∀(d k:Nat),ee S k<=ee S (k+d)
 | 0,_=>le_refl _
 | d+1,k=>le_trans (mF S d k) (by rw[<-Nat.add_assoc,ee]; omega)
theorem yW {S:List bk} (hS:sV S) {h:Nat} (hh:h < 4) (p:DP):ic S h p=-1\/((ee S h:Int)<=ic S h p/\ic S h p < (ee S (h+1):Nat)):=by
 unfold ic
 rcases ME hS hh p with e|⟨e1,e2⟩
 ·rw[if_pos e]; exact .inl rfl
 ·rw[if_neg J]
  refine .inr ⟨J,?_⟩
  rw[ee]; omega
theorem Hu {S:List bk} (hS:sV S) {h g:Nat} (hh:h < 4) (hg:g < 4) (hne:h ≠ g) (p:DP):(ic S h p < 0\/ic S g p < 0)\/∃i j:Nat,ic S h p=i/\ic S g p=j/\i < ee S 4/\j < ee S 4/\i ≠ j:=by
 rcases yW hS hh p with e|⟨e1,e2⟩
 ·exact .inl (.inl J)
 rcases yW hS hg p with e|⟨e3,e4⟩
 ·exact .inl (.inr J)
 have m1:=mF S (4 - (h+1)) (h+1)
 have m2:=mF S (4 - (g+1)) (g+1)
 rw[show h+1+(4 - (h+1))=4 from J] at m1
 rw[show g+1+(4 - (g+1))=4 from J] at m2
 refine .inr ⟨(ic S h p).toNat,(ic S g p).toNat,J,J,J,J,fun e=>?_⟩
 rcases Nat.lt_or_gt_of_ne hne with hlt|hlt
 ·have m3:=mF S (g - (h+1)) (h+1)
  rw[show h+1+(g - (h+1))=g from J] at m3
  omega
 ·have m3:=mF S (h - (g+1)) (g+1)
  rw[show g+1+(h - (g+1))=h from J] at m3
  omega
theorem XJ (x:Option Nat) (s:dG) (S:List bk) (op:List Int) (L:List (List Int)) (a b:Int) (h:(a < 0\/b < 0)\/∃i j:Nat,a=i/\b=j/\i < L.length/\j < L.length/\i ≠ j) (hn:∀l ∈ L,l.length<=1000000) (hL:L.length<=1000000000):n0 prog 125 [.ptr 0 0,.sc (.int .i64 a),.sc (.int .i64 b)] (bB x (k9 s S op L.length) 3 0 L) (.dY []) (bB x (k9 s S op L.length) 3 1 (rW L a b)):=by
 rcases h with h|⟨i,j,rfl,rfl,hi,hj,hij⟩
 ·unfold rW
  rw[if_neg J]
  exact TA x s S op L a b h
 ·unfold rW
  rw[if_pos ⟨J,J⟩,toNat_natCast,toNat_natCast]
  exact Va x s S op L i j hi hj hij hn hL
def uF (S:List bk) (p:DP) (L:List (List Int)):Nat->List (List Int)
 | 0=>L
 | h+1=>rW (uF S p L h) (ic S h p) (ic S ((h+1) % 4) p)
def tL (S:List bk) (tb:List DV) (op:List Int):Nat->List (List Int)
 | 0=>replicate (ee S S.length) []
 | q+1=>uF S (ct (nth (t:=an) tb (nth (t:=.int) op q).toNat)) (tL S tb op q) 4
def mw (l:List Int):List Int:=Lib.compact (l.mergeSort mS)
def Ih (S:List bk) (tb:List DV) (op:List Int):List (List Int):=(tL S tb op op.length).map mw
theorem tT {S:List bk} {p:DP} {L:List (List Int)}:∀h,(uF S p L h).length=L.length
 | 0=>rfl
 | h+1=>by rw[uF,A6,tT h]
theorem tS {S:List bk} {tb:List DV} {op:List Int}:∀q,(tL S tb op q).length=ee S S.length
 | 0=>length_replicate
 | q+1=>by rw[tL,tT,tS q]
theorem DZ {S:List bk} (hS:sV S) {p:DP} {L:List (List Int)} {m:Nat} (hL:L.length=ee S 4) (hm:∀l ∈ L,l.length<=m):∀h,h<=4->∀l ∈ uF S p L h,l.length<=m+h
 | 0,_=>hm
 | h+1,hh=>by
  have ih:=DZ hS hL hm h J (p:=p)
  have hlen:=tT (S:=S) (p:=p) (L:=L) h
  intro l hl
  rw[uF] at hl
  unfold rW at hl
  split at hl
  ·rename_i hc
   rcases Hu hS (h:=h) (g:=(h+1) % 4) J J J p with h1|⟨i,j,e1,e2,hi,hj,_⟩
   ·omega
   ·rw[e1,e2,toNat_natCast,toNat_natCast] at hl
    have:=Vh J J ih l hl
    omega
  ·have:=ih l hl; omega
theorem Dq {S:List bk} (hS:sV S) {tb:List DV} {op:List Int}:∀q,∀l ∈ tL S tb op q,l.length<=4 * q
 | 0=>fun l hl=>by rw[(mem_replicate.1 hl).2]; exact le_refl _
 | q+1=>fun l hl=>by
  have:=DZ hS (by rw[tS,hS.four]) (Dq hS q (tb:=tb) (op:=op)) 4 (le_refl _) l hl
  omega
theorem D8 {l:List Int} {k:Int}:k ∈ mw l ↔ k ∈ l:=by
 unfold mw
 constructor
 ·intro h; exact (mergeSort_perm _ _).mem_iff.1 (Iw h)
 ·intro h; exact zP ((mergeSort_perm _ _).mem_iff.2 h)
section
variable (n:Nat) (D:List DV)
def sD (wall:Int):Nat->List Int
 | 0=>[]
 | i+1=>if (nth (t:=an) D i).2=wall/\0<=(nth (t:=an) D i).1/\(nth (t:=an) D i).1<=(n:Int) - 1 then sD wall i++[(nth (t:=an) D i).1] else sD wall i
def j4 (wall:Int):List Int:=mw (sD n D wall D.length)
def qb:Nat->List Int
 | 0=>[]
 | i+1=>qb i++[(nth (t:=an) D i).2]
def dj:List Int:=mw (qb D D.length)
def da (F:List Int) (wall:Int):List Int:=(j4 n D wall).filter fun k=>!(!(F.any fun c=>!decide (c=k) && (j4 n D wall).any fun y=>decide (c=y)))
end
variable {n:Nat} {D:List DV}
theorem EE (wall:Int):∀i,(sD n D wall i).length<=i
 | 0=>le_refl _
 | i+1=>by
  have:=EE wall i
  rw[sD]
  split
  ·rw[length_append,length_singleton]; omega
  ·omega
theorem D5 {wall:Int}:∀{i:Nat} {k:Int},k ∈ sD n D wall i->0<=k/\k < (n:Int)
 | 0,_,h=>nomatch h
 | i+1,k,h=>by
  rw[sD] at h
  split at h
  ·rename_i hc
   rcases mem_append.1 h with h|h
   ·exact D5 h
   ·rw[mem_singleton.1 h]; exact⟨hc.2.1,by have:=hc.2.2; exact Int.lt_of_le_sub_one this⟩
  ·exact D5 h
theorem VO {wall k:Int} (h:k ∈ j4 n D wall):0<=k/\k < (n:Int):=D5 (D8.1 h)
theorem A0 (l:List Int):(mw l).length<=l.length:=by
 have:=Bm (l.mergeSort mS)
 rw[length_mergeSort] at this
 exact this
theorem HV (wall:Int):(j4 n D wall).length<=D.length:=le_trans (A0 _) (EE _ _)
theorem Bk:∀i,(qb D i).length=i
 | 0=>rfl
 | i+1=>by rw[qb,length_append,Bk i]; rfl
theorem J6:(dj D).length<=D.length:=le_trans (A0 _) (le_of_eq (Bk _))
theorem nh {F:List Int} {wall k:Int}:k ∈ da n D F wall ↔ k ∈ j4 n D wall/\∃c ∈ F,c ≠ k/\c ∈ j4 n D wall:=by
 unfold da
 rw[mem_filter,Bool.not_not,any_eq_true]
 refine and_congr_right fun _=>exists_congr fun c=>and_congr_right fun _=>?_
 rw[Bool.and_eq_true,any_eq_true]
 constructor
 ·rintro⟨h1,y,hy,h2⟩
  refine⟨fun e=>?_,?_⟩
  ·rw[aj e] at h1; cases h1
  ·rw[of_decide_eq_true h2]; exact hy
 ·rintro⟨h1,h2⟩
  exact⟨by rw[ak h1]; rfl,c,h2,aj rfl⟩
theorem uL {F:List Int} {wall k:Int} (h:k ∈ da n D F wall):0<=k/\k < (n:Int):=VO (nh.1 h).1
theorem yT (F:List Int) (wall:Int):(da n D F wall).length<=D.length:=le_trans (List.length_filter_le _ _) (HV _)
theorem XA {c k wall:Int} (h:k ∈ da n D [c] wall):c ∈ da n D [k] wall:=by
 obtain⟨h1,c',hc,h2,h3⟩:=nh.1 h
 rw[mem_singleton.1 hc] at h2 h3
 exact nh.2 ⟨h3,k,mem_singleton.2 rfl,fun e=>h2 e.symm,h1⟩
theorem EV {F:List Int} {c k wall:Int} (hc:c ∈ F) (h:k ∈ da n D [c] wall):k ∈ da n D F wall:=by
 obtain⟨h1,c',hc',h2⟩:=nh.1 h
 rw[mem_singleton.1 hc'] at h2
 exact nh.2 ⟨h1,c,hc,h2⟩
theorem SY {F:List Int} {k wall:Int} (h:k ∈ da n D F wall):∃c ∈ F,k ∈ da n D [c] wall:=by
 obtain⟨h1,c,hc,h2⟩:=nh.1 h
 exact⟨c,hc,nh.2 ⟨h1,c,mem_singleton.2 rfl,h2⟩⟩
abbrev wW:Type:=List Int × List Int
def zC (c:Int) (s:wW) (k:Int):wW:=if ni s.1 k.toNat < 0 then (s.1.set k.toNat (ni s.1 c.toNat+1),s.2++[k]) else s
def wb (c:Int) (l:List Int) (s:wW):Nat->wW
 | 0=>s
 | j+1=>zC c (wb c l s j) (ni l j)
def wA (n:Nat) (D:List DV) (c:Int) (s:wW):Nat->wW
 | 0=>s
 | j+1=>wb c (da n D [c] (ni (dj D) j)) (wA n D c s j) (da n D [c] (ni (dj D) j)).length
def gQ (n:Nat) (D:List DV) (to:Nat):Nat->wW
 | 0=>((replicate n (-1)).set to 0,[(to:Int)])
 | i+1=>if i < (gQ n D to i).2.length then wA n D (ni (gQ n D to i).2 i) (gQ n D to i) (dj D).length else gQ n D to i
def eG (n:Nat) (D:List DV) (to:Nat):List Int:=(gQ n D to n).1
structure BF (n:Nat) (D:List DV) (to:Nat) (s:wW):Prop where
 len:s.1.length=n
 Sk:kZ s.1+s.2.length<=n
 ba:∀k ∈ s.2,0<=k/\k < (n:Int)
 hi:∀j,j < s.2.length->0<=ni s.1 (ni s.2 j).toNat/\ni s.1 (ni s.2 j).toNat<=(j:Int)
 pos:∀k:Nat,k < n->0<=ni s.1 k->(k:Int) ∈ s.2
 par:∀k ∈ s.2,k=(to:Int)\/∃wall ∈ dj D,∃c ∈ s.2,k ∈ da n D [c] wall/\ni s.1 k.toNat=ni s.1 c.toNat+1
 zero:ni s.1 to=0
 neg:∀k,k < n->ni s.1 k=-1\/0<=ni s.1 k
theorem jM {l:List Int} {j:Nat} (h:j < l.length):ni l j ∈ l:=by rw[cd h]; exact getElem_mem h
theorem xf {l:List Int} {x:Int} (h:x ∈ l):∃j,j < l.length/\ni l j=x:=by
 obtain⟨j,hj,rfl⟩:=getElem_of_mem h
 exact⟨j,hj,cd hj⟩
theorem qQ {l m:List Int} {j:Nat} (h:j < l.length):ni (l++m) j=ni l j:=by
 rw[cd (by rw[length_append]; omega),cd h,List.getElem_append_left h]
theorem EW {l:List Int} {x:Int}:ni (l++[x]) l.length=x:=by
 rw[cd ah,List.getElem_append_right (le_refl _)]; simp
theorem UM (n:Nat):kZ (replicate n (-1))=n:=by
 unfold kZ
 rw[List.filter_eq_self.2 (fun x hx=>by rw[(mem_replicate.1 hx).2]; rfl),length_replicate]
theorem Ia {n k:Nat} (h:k < n):ni (replicate n (-1)) k=-1:=by
 rw[cd (by simpa using h),List.getElem_replicate]
section
variable {to:Nat} {s:wW} {c:Int}
theorem BF.start (h:to < n):BF n D to ((replicate n (-1)).set to 0,[(to:Int)]):=by
 have hl:(replicate n (-1:Int)).length=n:=length_replicate
 have hs:∀k,ni ((replicate n (-1)).set to 0) k=if to=k then 0 else ni (replicate n (-1)) k:=fun k=>xn (by rw[hl]; exact h)
 refine⟨by rw[length_set]; exact hl,?_,fun k hk=>?_,fun j hj=>?_,fun k hk h0=>?_,fun k hk=>?_,?_,fun k hk=>?_⟩
 ·have:=Ax (o:=replicate n (-1)) (i:=to) (x:=0) (by rw[hl]; exact h) (by rw[Ia h]; decide) ae
  rw[UM] at this
  exact this
 ·rw[mem_singleton.1 hk]; omega
 ·have hj:j < 1:=hj
  obtain rfl:j=0:=J
  show 0<=ni _ ((to:Int)).toNat/\ni _ ((to:Int)).toNat<=0
  rw[toNat_natCast,hs,if_pos rfl]; decide
 ·rw[hs] at h0
  by_cases e:to=k
  ·subst e; exact mem_singleton.2 rfl
  ·rw[if_neg e,Ia hk] at h0; exact absurd h0 ae
 ·exact .inl (mem_singleton.1 hk)
 ·rw[hs,if_pos rfl]
 ·rw[hs]
  by_cases e:to=k
  ·rw[if_pos e]; exact .inr ae
  ·rw[if_neg e,Ia hk]; exact .inl rfl
theorem BF.zC {k wall:Int} (h:BF n D to s) (hc:c ∈ s.2) (hw:wall ∈ dj D) (hk:k ∈ da n D [c] wall):BF n D to (zC c s k):=by
 unfold DW.zC
 split
 ·rename_i hneg
  obtain⟨k0,k1⟩:=uL hk
  have hkl:k.toNat < s.1.length:=by rw[h.len]; omega
  obtain⟨jc,hjc,ejc⟩:=xf hc
  obtain⟨c0,c1⟩:=h.hi jc hjc
  rw[ejc] at c0 c1
  have hset:∀j,ni (s.1.set k.toNat (ni s.1 c.toNat+1)) j=if k.toNat=j then ni s.1 c.toNat+1 else ni s.1 j:=fun j=>xn hkl
  have hold:∀q ∈ s.2,ni (s.1.set k.toNat (ni s.1 c.toNat+1)) q.toNat=ni s.1 q.toNat:=fun q hq=>by
   obtain⟨jq,hjq,ejq⟩:=xf hq
   have:=(h.hi jq hjq).1
   rw[ejq] at this
   rw[hset,if_neg (fun e=>by rw[e] at hneg; omega)]
  refine⟨by rw[length_set]; exact h.len,?_,fun q hq=>?_,fun j hj=>?_,fun q hq h0=>?_,fun q hq=>?_,?_,fun q hq=>?_⟩
  ·have h1:=Ax hkl hneg (show 0<=ni s.1 c.toNat+1 from J)
   have h2:=h.Sk
   have h3:(s.2++[k]).length=s.2.length+1:=by rw[length_append,length_singleton]
   show kZ (s.1.set k.toNat (ni s.1 c.toNat+1))+(s.2++[k]).length<=n
   rw[h3]
   omega
  ·rcases mem_append.1 hq with hq|hq
   ·exact h.ba q hq
   ·rw[mem_singleton.1 hq]; exact⟨k0,k1⟩
  ·have hj:j < (s.2++[k]).length:=hj
   rw[length_append,length_singleton] at hj
   show 0<=ni _ (ni (s.2++[k]) j).toNat/\ni _ (ni (s.2++[k]) j).toNat<=_
   by_cases e:j < s.2.length
   ·rw[qQ e,hold _ (jM e)]
    exact h.hi j e
   ·obtain rfl:j=s.2.length:=J
    rw[EW,hset,if_pos rfl]
    omega
  ·rw[hset] at h0
   by_cases e:k.toNat=q
   ·exact List.mem_append_right _ (mem_singleton.2 J)
   ·rw[if_neg e] at h0
    exact List.mem_append_left _ (h.pos q hq h0)
  ·rcases mem_append.1 hq with hq|hq
   ·rcases h.par q hq with e|⟨w,hw',p,hp,h1,h2⟩
    ·exact .inl e
    ·exact .inr ⟨w,hw',p,List.mem_append_left _ hp,h1,by rw[hold q hq,hold p hp]; exact h2⟩
   ·rw[mem_singleton.1 hq]
    exact .inr ⟨wall,hw,c,List.mem_append_left _ hc,hk,by rw[hset,if_pos rfl,hold c hc]⟩
  ·rw[hset,if_neg (fun e=>by rw[e,h.zero] at hneg; exact absurd hneg ae)]
   exact h.zero
  ·rw[hset]
   split
   ·exact .inr J
   ·exact h.neg q hq
 ·exact h
theorem Yu (c:Int) (s:wW) (k:Int):s.2 <+: (zC c s k).2:=by
 unfold zC
 split
 ·exact List.prefix_append _ _
 ·exact prefix_refl _
theorem Jp {l:List Int} {wall:Int} (h:BF n D to s) (hc:c ∈ s.2) (hw:wall ∈ dj D) (hl:∀k ∈ l,k ∈ da n D [c] wall):∀j,j<=l.length->BF n D to (wb c l s j)/\s.2 <+: (wb c l s j).2
 | 0,_=>⟨h,prefix_refl _⟩
 | j+1,hj=>by
  obtain⟨h1,h2⟩:=Jp h hc hw hl j J
  exact⟨h1.zC (h2.subset hc) hw (hl _ (jM J)),h2.trans (Yu _ _ _)⟩
theorem HP (h:BF n D to s) (hc:c ∈ s.2):∀j,j<=(dj D).length->BF n D to (wA n D c s j)/\s.2 <+: (wA n D c s j).2
 | 0,_=>⟨h,prefix_refl _⟩
 | j+1,hj=>by
  obtain⟨h1,h2⟩:=HP h hc j J
  obtain⟨h3,h4⟩:=Jp h1 (h2.subset hc) (jM (by omega:j < (dj D).length)) (fun k hk=>hk) _ (le_refl _)
  exact⟨h3,h2.trans h4⟩
theorem Ic (ht:to < n):∀i,BF n D to (gQ n D to i)
 | 0=>BF.start ht
 | i+1=>by
  have h:=Ic ht i
  rw[gQ]
  split
  ·rename_i hi
   exact (HP h (jM hi) _ (le_refl _)).1
  ·exact h
theorem Np {i:Nat} (h:(gQ n D to i).2.length<=i):∀d,gQ n D to (i+d)=gQ n D to i
 | 0=>rfl
 | d+1=>by
  have ih:=Np h d
  rw[<-Nat.add_assoc,gQ,ih,if_neg J]
theorem Z7 {i:Nat} (ht:to < n) (hi:i<=n) (h:(gQ n D to i).2.length<=i):(gQ n D to i).1=eG n D to:=by
 unfold eG
 have:=Np h (n - i)
 rw[show i+(n - i)=n from J] at this
 rw[this]
theorem yk (ht:to < n):BF n D to (gQ n D to n):=Ic ht n
theorem Yq (ht:to < n):(eG n D to).length=n:=(yk ht).len
theorem SN (ht:to < n) {k:Nat} (hk:k < n):ni (eG n D to) k<=(n:Int):=by
 have h:=yk ht (D:=D)
 by_cases h0:0<=ni (gQ n D to n).1 k
 ·obtain⟨j,hj,e⟩:=xf (h.pos k hk h0)
  have h1:=(h.hi j hj).2
  have h2:=h.Sk
  rw[e,toNat_natCast] at h1
  show ni (gQ n D to n).1 k<=_
  omega
 ·show ni (gQ n D to n).1 k<=_
  omega
theorem ED (ht:to < n) {k:Nat} (hk:k < n):ni (eG n D to) k=-1\/0<=ni (eG n D to) k:=(yk ht).neg k hk
theorem TB (ht:to < n) {k:Nat} (hk:k < n):ni (eG n D to) k=0 ↔ k=to:=by
 have h:=yk ht (D:=D)
 constructor
 ·intro e
  have e:ni (gQ n D to n).1 k=0:=e
  rcases h.par _ (h.pos k hk J) with e2|⟨w,_,c,hc,_,h2⟩
  ·omega
  ·obtain⟨j,hj,ej⟩:=xf hc
   have:=(h.hi j hj).1
   rw[ej] at this
   rw[toNat_natCast] at h2
   omega
 ·rintro rfl; exact h.zero
theorem Ug (ht:to < n) {k:Nat} (hk:k < n) (h0:0 < ni (eG n D to) k):∃wall ∈ dj D,∃c,c ∈ da n D [(k:Int)] wall/\ni (eG n D to) c.toNat=ni (eG n D to) k - 1:=by
 have h:=yk ht (D:=D)
 have h0:0 < ni (gQ n D to n).1 k:=h0
 rcases h.par _ (h.pos k hk J) with e2|⟨w,hw,c,_,h1,h2⟩
 ·have e2:k=to:=J
  rw[e2,h.zero] at h0; exact absurd h0 ae
 ·rw[toNat_natCast] at h2
  exact⟨w,hw,c,XA h1,by show ni (gQ n D to n).1 c.toNat=ni (gQ n D to n).1 k - 1; omega⟩
end
section
variable (n:Nat) (D:List DV)
def nV (dh cur:List Int) (wall left:Int):List Int:=(da n D cur wall).filter fun k=>!(!decide (ni dh k.toNat=left))
def E4 (dh:List Int) (s:List Int × List Int) (left:Int):List Int × List Int :=
 match (dj D).find? fun w=>decide (0 < (nV n D dh s.2 w left).length) with
 | some w=>(s.1++[w],nV n D dh s.2 w left)
 | none=>s
def qe (dh:List Int) (frm:Int):Nat->List Int × List Int
 | 0=>([],[frm])
 | t+1=>E4 n D dh (qe dh frm t) (ni dh frm.toNat - 1 - (t:Int))
def k7 (frm to:Nat):List Int:=if frm=to then [] else (qe n D (eG n D to) frm (ni (eG n D to) frm).toNat).1
def mV (F ws:List Int):List Int:=ws.foldl (da n D) F
def qd (frm:Int) (ws:List Int) (to:Int):Bool:=(mV n D [frm] ws).any fun y=>decide (to=y)
def FT (frm wall:Int) (ws:List Int) (to:Int):List Int:=(da n D [frm] wall).filter fun k=>!(!qd n D k ws to)
def oe (ws:List Int) (to frm:Int):Nat->Int
 | 0=>frm
 | i+1=>ni (FT n D (oe ws to frm i) (ni ws i) (ws.drop (i+1)) to) 0
end
variable {n:Nat} {D:List DV}
theorem Ir {dh cur:List Int} {wall left k:Int}:k ∈ nV n D dh cur wall left ↔ k ∈ da n D cur wall/\ni dh k.toNat=left:=by
 unfold nV
 rw[mem_filter,Bool.not_not,decide_eq_true_eq]
theorem aab (dh cur:List Int) (wall left:Int):(nV n D dh cur wall left).length<=D.length:=le_trans (List.length_filter_le _ _) (yT _ _)
theorem Nj (F ws:List Int) (w:Int):mV n D F (ws++[w])=da n D (mV n D F ws) w:=by
 unfold mV; rw[List.foldl_append]; rfl
theorem rn (F ws:List Int) (w:Int):mV n D F (w :: ws)=mV n D (da n D F w) ws:=rfl
theorem xY {k:Int}:∀{ws F:List Int},k ∈ mV n D F ws ↔ ∃c ∈ F,k ∈ mV n D [c] ws
 | [],F=>by
  constructor
  ·intro h; exact⟨k,h,mem_singleton.2 rfl⟩
  ·rintro⟨c,hc,h⟩; rw[mem_singleton.1 h]; exact hc
 | w :: ws,F=>by
  rw[rn,xY (ws:=ws)]
  constructor
  ·rintro⟨c,hc,h⟩
   obtain⟨d,hd,h2⟩:=SY hc
   exact⟨d,hd,by rw[rn]; exact xY.2 ⟨c,h2,h⟩⟩
  ·rintro⟨d,hd,h⟩
   rw[rn] at h
   obtain⟨c,hc,h2⟩:=xY.1 h
   exact⟨c,EV hd hc,h2⟩
theorem G8 {l:List Int} {x:Int}:(l.any fun y=>decide (x=y))=true ↔ x ∈ l:=by
 rw[any_eq_true]
 constructor
 ·rintro⟨y,hy,h⟩; have:=of_decide_eq_true h; rwa [this]
 ·intro h; exact⟨x,h,aj rfl⟩
theorem Cl {frm to:Int} {ws:List Int}:qd n D frm ws to=true ↔ to ∈ mV n D [frm] ws:=G8
structure CwI (n:Nat) (D:List DV) (dh:List Int) (frm:Int) (t:Nat) (s:List Int × List Int):Prop where
 len:s.1.length=t
 ne:s.2 ≠ []
 dh:∀k ∈ s.2,0<=k/\k < (n:Int)/\ni dh k.toNat=ni dh frm.toNat - (t:Int)
 sub:∀k ∈ s.2,k ∈ mV n D [frm] s.1
 cur:s.2.length<=D.length+1
theorem Cg {frm to:Nat} (hf:frm < n) (ht:to < n):∀t:Nat,(t:Int)<=ni (eG n D to) frm->CwI n D (eG n D to) frm t (qe n D (eG n D to) frm t)
 | 0,_=>⟨rfl,by simp[qe],fun k hk=>by rw[mem_singleton.1 hk,toNat_natCast]; refine⟨J,J,J⟩,fun k hk=>hk,by show 1<=_; omega⟩
 | t+1,h=>by
  have ih:=Cg hf ht t J
  rw[qe]
  generalize qe n D (eG n D to) frm t=s at *
  obtain⟨k,hk⟩:∃k,k ∈ s.2:=by
   cases hs:s.2 with
   | nil=>exact absurd hs ih.ne
   | cons a l=>exact⟨a,mem_cons_self⟩
  obtain⟨k0,k1,k2⟩:=ih.dh k hk
  rw[toNat_natCast] at k2 ⊢
  have hkn:k=((k.toNat:Nat):Int):=J
  obtain⟨w,hw,c,h1,h2⟩:=Ug ht (k:=k.toNat) (D:=D) J J
  rw[<-hkn] at h1
  have hc:c ∈ nV n D (eG n D to) s.2 w (ni (eG n D to) frm - 1 - (t:Int)):=Ir.2 ⟨EV hk h1,J⟩
  unfold E4
  split
  ·rename_i w2 hfd
   have hp:=List.find?_some hfd
   have hp:=of_decide_eq_true hp
   refine⟨by rw[length_append,ih.len]; rfl,fun e=>?_,fun q hq=>?_,fun q hq=>?_,Nat.le_succ_of_le (aab _ _ _ _)⟩
   ·have e:nV n D (eG n D to) s.2 w2 (ni (eG n D to) frm - 1 - (t:Int))=[]:=e
    rw[e] at hp; exact absurd hp ae
   ·obtain⟨q1,q2⟩:=Ir.1 hq
    obtain⟨r1,r2⟩:=uL q1
    refine⟨r1,r2,?_⟩
    rw[toNat_natCast]; omega
   ·obtain⟨q1,_⟩:=Ir.1 hq
    show q ∈ mV n D [(frm:Int)] (s.1++[w2])
    rw[Nj]
    obtain⟨d,hd,h3⟩:=SY q1
    exact EV (ih.sub d hd) h3
  ·rename_i hfd
   have:=List.find?_eq_none.1 hfd w hw
   rw[decide_eq_true_eq] at this
   exact absurd (length_pos_of_mem hc) this
theorem E3 {frm to:Nat} (hf:frm < n) (ht:to < n) (h:k7 n D frm to ≠ []\/frm=to):qd n D frm (k7 n D frm to) to=true:=by
 rw[Cl]
 unfold k7 at h ⊢
 by_cases e:frm=to
 ·rw[if_pos e,e]; exact mem_singleton.2 rfl
 ·rw[if_neg e] at h ⊢
  have h:=h.resolve_right e
  rcases ED ht hf (D:=D) with h1|h1
  ·rw[h1] at h; exact absurd rfl h
  ·have ih:=Cg (D:=D) hf ht (ni (eG n D to) frm).toNat J
   generalize qe n D (eG n D to) frm (ni (eG n D to) frm).toNat=s at *
   obtain⟨k,hk⟩:∃k,k ∈ s.2:=by
    cases hs:s.2 with
    | nil=>exact absurd hs ih.ne
    | cons a l=>exact⟨a,mem_cons_self⟩
   obtain⟨k0,k1,k2⟩:=ih.dh k hk
   rw[toNat_natCast] at k2
   have:=(TB ht (k:=k.toNat) (D:=D) J).1 J
   have:=ih.sub k hk
   rwa [show (to:Int)=k from J]
theorem NU {frm to:Nat} (hf:frm < n) (ht:to < n):(k7 n D frm to).length<=n:=by
 unfold k7
 split
 ·exact zero_le _
 ·rcases ED ht hf (D:=D) with h1|h1
  ·rw[h1]; exact zero_le _
  ·have ih:=Cg (D:=D) hf ht (ni (eG n D to) frm).toNat J
   have:=SN ht hf (D:=D)
   have:=ih.len
   omega
theorem Dj {frm wall to k:Int} {ws:List Int}:k ∈ FT n D frm wall ws to ↔ k ∈ da n D [frm] wall/\qd n D k ws to=true:=by
 unfold FT
 rw[mem_filter,Bool.not_not]
theorem yD {ws:List Int} {i:Nat} (h:i < ws.length):ws.drop i=ni ws i :: ws.drop (i+1):=by
 rw[List.drop_eq_getElem_cons h,cd h]
theorem ID {ws:List Int} {to frm:Int} (h:qd n D frm ws to=true):∀i,i<=ws.length->qd n D (oe n D ws to frm i) (ws.drop i) to=true
 | 0,_=>h
 | i+1,hi=>by
  have ih:=ID h i J
  rw[Cl,yD J,rn] at ih
  obtain⟨c,hc,h2⟩:=xY.1 ih
  have hm:c ∈ FT n D (oe n D ws to frm i) (ni ws i) (ws.drop (i+1)) to:=Dj.2 ⟨hc,Cl.2 h2⟩
  rw[oe]
  exact (Dj.1 (jM (length_pos_of_mem hm))).2
theorem MH {ws:List Int} {to frm:Int} (h:qd n D frm ws to=true) {i:Nat} (hi:i < ws.length):0 < (FT n D (oe n D ws to frm i) (ni ws i) (ws.drop (i+1)) to).length:=by
 have ih:=ID h i J
 rw[Cl,yD hi,rn] at ih
 obtain⟨c,hc,h2⟩:=xY.1 ih
 exact length_pos_of_mem (Dj.2 ⟨hc,Cl.2 h2⟩)
theorem aaF {ws:List Int} {to frm:Int} (h:qd n D frm ws to=true) {i:Nat} (hi:i < ws.length):oe n D ws to frm (i+1) ∈ da n D [oe n D ws to frm i] (ni ws i):=by
 rw[oe]
 exact (Dj.1 (jM (MH h hi))).1
theorem QZ {ws:List Int} {to frm:Int} (h:qd n D frm ws to=true) (hf:0<=frm/\frm < (n:Int)):∀i,i<=ws.length->0<=oe n D ws to frm i/\oe n D ws to frm i < (n:Int)
 | 0,_=>hf
 | i+1,hi=>uL (aaF h J)
theorem Jz (l:List Int) (x:Int):Fn prog 140 [⟨aq,l⟩,⟨.int,x⟩] false [⟨.int,jL (t:=.int) (fun y=>decide (x=y)) l⟩]:=by
 refine fe func140 ntmps140 results140 fun hwf=>?_
 have hl:l.length<=9223372036854775807:=(hwf ⟨.slice (.int),l⟩ ah).1
 refine Nz ?_
 refine aF.intro _ _ _ (fun i:Nat=>⟨[(0,.sl .int l),(1,.sc (.int .i64 x)),(7,.sc (.int .i64 l.length)),(8,.sc (.int .i64 i))],[]⟩) (fun i=>∀j < i,j < l.length->decide (x=nth (t:=.int) l j)=false) (fun i=>l.length - i) 0 ?_ (fun j h=>by simp at h) ?_
 ·exact WK
 ·rintro i h2
  refine Nz ?_
  refine ao ?_ ?_<;>intro h3
  ·refine Sz ?_
   refine ao (fun h4=>?_) (fun h4=>?_)
   ·refine Nz ?_
    exact (jy (t:=.int) (p:=fun y=>decide (x=y)) J (aj h4) (fun j hj=>h2 j hj J)).symm
   ·refine Sz ?_
    refine az.mk (i+1) ?_ (fun j hj hl=>?_) J
    ·exact WK
    ·by_cases hj2:j < i
     ·exact h2 j hj2 hl
     ·rw[show j=i from J]; exact ak h4
  ·refine Nz ?_
   exact (fP (t:=.int) (p:=fun y=>decide (x=y)) fun j hj=>h2 j J hj).symm
theorem nK (l:List Int) (x:Int):Fn prog 62 [⟨aq,l⟩,⟨.int,x⟩] false [⟨.bool,l.any fun y=>decide (x=y)⟩]:=by
 have c1:=Jz l x
 refine fe func62 ntmps62 results62 fun hwf=>?_
 refine Bz c1 ?_
 exact lq
@[go_sem] def xS (x:bk):List AV:=[.sc (.int .i64 x.1),.sc (.bool x.2.1),.sc (.int .i64 x.2.2.1.1.1),.sc (.int .i64 x.2.2.1.1.2),.sc (.int .i64 x.2.2.1.2.1),.sc (.int .i64 x.2.2.1.2.2),.sl (.slice an) x.2.2.2.1,.sl bf x.2.2.2.2.1,.sl bz x.2.2.2.2.2.1,.sl an x.2.2.2.2.2.2.1,.sl .int x.2.2.2.2.2.2.2]
theorem Dh (x:bk) (wall:Int) (hC:x.2.2.2.2.1.length<=1000000) (hD:x.2.2.2.2.2.2.1.length<=100000000):Fn prog 326 [⟨aP,x⟩,⟨.int,wall⟩] false [⟨aq,j4 x.2.2.2.2.1.length x.2.2.2.2.2.2.1 wall⟩]:=by
 obtain⟨hd,o,⟨⟨b1,b2⟩,⟨b3,b4⟩⟩,a,C,W,D,T⟩:=x
 dsimp only at hC hD ⊢
 have hl:=fun i=>EE (n:=C.length) (D:=D) wall i
 have hend:j4 C.length D wall=Lib.compact ((sD C.length D wall D.length).mergeSort mS):=rfl
 have cs:=fun (l:List Int) (h:l.length<=1000000000)=>ry l h
 have cc:=fun (l:List Int) (h:l.length<=1000000000)=>pe l h
 refine fe func326 ntmps326 results326 fun hwf=>?_
 refine Sz ?_
 refine aF.intro _ _ _ (fun i:Nat=>⟨[(1,.sc (.int .i64 wall)),(2,.ptr 0 0),(5,.row 1 0),(10,.sl an D),(11,.sc (.int .i64 D.length)),(12,.sc (.int .i64 i))],[(0,.box (xS (hd,o,((b1,b2),(b3,b4)),a,C,W,D,T))),(1,.row 3 .int 0 true (sD C.length D wall i))]⟩) (fun i=>i<=D.length) (fun i=>D.length - i) 0 ?_ (zero_le _) ?_
 ·exact WK
 ·rintro i hi
  have hli:=hl i
  refine Nz ?_
  refine ao ?_ ?_<;>intro hA
  ·have hit:i < D.length:=J
   have e:sD C.length D wall (i+1)=if (nth (t:=an) D i).2=wall/\0<=(nth (t:=an) D i).1/\(nth (t:=an) D i).1<=(C.length:Int) - 1 then sD C.length D wall i++[(nth (t:=an) D i).1] else sD C.length D wall i:=rfl
   have c1:=dH (nth (t:=an) D i).1 0 ((C.length:Int) - 1)
   by_cases g1:(nth (t:=an) D i).2=wall
   ·have e1:=aj g1
    by_cases g2:0<=(nth (t:=an) D i).1/\(nth (t:=an) D i).1<=(C.length:Int) - 1
    ·rw[if_pos ⟨g1,g2⟩] at e
     rw[aj g2] at c1
     refine Tz e1 ?_
     refine cw c1 ?_
     refine Sz ?_
     refine az.mk (i+1) ?_ J J
     rw[e]
     exact WK
    ·rw[if_neg (fun h=>g2 h.2)] at e
     rw[ak g2] at c1
     refine Tz e1 ?_
     refine cw c1 ?_
     refine Sz ?_
     refine az.mk (i+1) ?_ J J
     rw[e]
     exact WK
   ·have e1:=ak g1
    rw[if_neg (fun h=>g1 h.1)] at e
    refine Tz e1 ?_
    refine az.mk (i+1) ?_ J J
    rw[e]
    exact WK
  ·obtain rfl:i=D.length:=J
   rw[hend]
   refine Sz ?_
   refine aO.r (k:=1) (ver:=0) (o:=true) ((cs (sD C.length D wall D.length) J)) ?_
   refine Sz ?_
   refine aO.r (k:=1) (ver:=0) (o:=true) ((cc ((sD C.length D wall D.length).mergeSort mS) (by rw[length_mergeSort]; omega))) ?_
   try simp (maxSteps:=9^9) only[go_sem]
theorem Cm (x:bk) (hD:x.2.2.2.2.2.2.1.length<=100000000):Fn prog 322 [⟨aP,x⟩] false [⟨aq,dj x.2.2.2.2.2.2.1⟩]:=by
 obtain⟨hd,o,⟨⟨b1,b2⟩,⟨b3,b4⟩⟩,a,C,W,D,T⟩:=x
 dsimp only at hD ⊢
 have hl:=fun i=>Bk (D:=D) i
 have hend:dj D=Lib.compact ((qb D D.length).mergeSort mS):=rfl
 have cs:=fun (l:List Int) (h:l.length<=1000000000)=>ry l h
 have cc:=fun (l:List Int) (h:l.length<=1000000000)=>pe l h
 refine fe func322 ntmps322 results322 fun hwf=>?_
 refine Sz ?_
 refine aF.intro _ _ _ (fun i:Nat=>⟨[(1,.ptr 0 0),(3,.row 1 0),(8,.sl an D),(9,.sc (.int .i64 D.length)),(10,.sc (.int .i64 i))],[(0,.box (xS (hd,o,((b1,b2),(b3,b4)),a,C,W,D,T))),(1,.row 3 .int 0 true (qb D i))]⟩) (fun i=>i<=D.length) (fun i=>D.length - i) 0 ?_ (zero_le _) ?_
 ·exact WK
 ·rintro i hi
  have hli:=hl i
  refine Nz ?_
  refine ao ?_ ?_<;>intro hA
  ·have hit:i < D.length:=J
   have e:qb D (i+1)=qb D i++[(nth (t:=an) D i).2]:=rfl
   refine Sz ?_
   refine az.mk (i+1) ?_ J J
   rw[e]
   exact WK
  ·obtain rfl:i=D.length:=J
   rw[hend]
   refine Sz ?_
   refine aO.r (k:=1) (ver:=0) (o:=true) ((cs (qb D D.length) J)) ?_
   refine Sz ?_
   refine aO.r (k:=1) (ver:=0) (o:=true) ((cc ((qb D D.length).mergeSort mS) (by rw[length_mergeSort]; omega))) ?_
   try simp (maxSteps:=9^9) only[go_sem]
theorem lG (F:FuncId) (A:Ty) (x:A.den) (p:Int->Bool) (l:List Int) (hF:∀y ∈ l,Fn prog F (⟨.int,y⟩ :: kx A x) false [⟨.bool,p y⟩]):Fn prog 235 [⟨aq,l⟩,⟨.ext (.ie F) A,some x⟩] false [⟨.int,jL (t:=.int) p l⟩]:=by
 refine fe func235 ntmps235 results235 fun hwf=>?_
 have hl:l.length<=9223372036854775807:=(hwf ⟨.slice (.int),l⟩ ah).1
 refine Nz ?_
 refine aF.intro _ _ _ (fun i:Nat=>⟨[(0,.sl .int l),(1,.ex (.ie F) A (some x)),(7,.sc (.int .i64 l.length)),(8,.sc (.int .i64 i))],[]⟩) (fun i=>∀j < i,j < l.length->p (nth (t:=.int) l j)=false) (fun i=>l.length - i) 0 ?_ (fun j h=>by simp at h) ?_
 ·exact WK
 ·rintro i h2
  refine Nz ?_
  refine ao ?_ ?_<;>intro h3
  ·have c1:=hF (nth (t:=.int) l i) (aS (t:=.int) J)
   refine Sz ?_
   refine qu.mk (c1) ?_
   refine Nz ?_
   refine ig (fun h4=>?_) (fun h4=>?_)
   ·refine Nz ?_
    exact (jy (t:=.int) J h4 (fun j hj=>h2 j hj J)).symm
   ·refine Sz ?_
    refine az.mk (i+1) ?_ (fun j hj hl=>?_) J
    ·exact WK
    ·by_cases hj2:j < i
     ·exact h2 j hj2 hl
     ·rw[show j=i from J]; exact h4
  ·refine Nz ?_
   exact (fP (t:=.int) fun j hj=>h2 j J hj).symm
theorem uX (F:FuncId) (A:Ty) (x:A.den) (p:Int->Bool) (l:List Int) (hF:∀y ∈ l,Fn prog F (⟨.int,y⟩ :: kx A x) false [⟨.bool,p y⟩]):Fn prog 156 [⟨aq,l⟩,⟨.ext (.ie F) A,some x⟩] false [⟨.bool,l.any p⟩]:=by
 have c1:=lG F A x p l hF
 refine fe func156 ntmps156 results156 fun hwf=>?_
 refine Bz c1 ?_
 exact lq
structure iC (w:World) (g cap:Nat) (e:TypeId) (d:List Int) (wr:World):Prop where
 bx:ep (fun x=>x=g) w.heap.size w wr
 row:∃cur:Array Value,wr.heap[g]? = some (.cells cur e (0,0))/\cur.size=cap/\cur.toList.take d.length=d.map (Value.int .i64)
theorem iC.cell {w wr:World} {g cap:Nat} {e:TypeId} {d:List Int} (h:iC w g cap e d wr) {j:Nat} (hj:j < d.length):wr.cell? ⟨g,j,none⟩=some (.int .i64 (ni d j)):=by
 obtain⟨cur,h1,h2,h3⟩:=h.row
 rw[cell_of_row wr g j cur e (0,0) h1,<-Array.getElem?_toList]
 have:=congrArg (fun l=>l[j]?) h3
 simp only[List.getElem?_take,if_pos hj,getElem?_map,getElem?_eq_getElem hj,Option.map_some] at this
 rw[this,cd hj]
theorem iC.tR {w wr:World} {g cap:Nat} {e:TypeId} {d:List Int} (h:iC w g cap e d wr) (j:Nat):wr.frozen? ⟨g,j,none⟩=false:=by
 obtain⟨cur,h1,_⟩:=h.row
 exact frozen_of_row wr g j cur e h1
theorem iC.below {w wr w':World} {g cap:Nat} {e:TypeId} {d:List Int} (h:iC w g cap e d wr) (hg:g < w.heap.size) (hb:Below wr.heap.size wr w'):iC w g cap e d w':=by
 have hs:=h.bx.size
 refine⟨h.bx.trans (ep.of ⟨hb.os,hb.tape,hb.output,hb.size,fun b hbl=>hb.block b J⟩),?_⟩
 obtain⟨cur,h1,h2⟩:=h.row
 exact⟨cur,(hb.block g J).trans h1,h2⟩
theorem iC.set {w wr:World} {g cap:Nat} {e:TypeId} {d:List Int} {i:Nat} {u:Int} (h:iC w g cap e d wr) (hi:i < d.length):iC w g cap e (d.set i u) (wr.setCell ⟨g,i,none⟩ (.int .i64 u)):=by
 refine⟨h.bx.trans ⟨rfl,rfl,rfl,le_of_eq (World.size_setCell ..).symm,fun b _ hb=>Below.heap_setCell _ _ _ _ hb⟩,?_⟩
 obtain⟨cur,h1,h2,h3⟩:=h.row
 refine⟨_,mI h1 _,by rw[Array.size_setIfInBounds]; exact h2,?_⟩
 rw[Array.toList_setIfInBounds,length_set,List.map_set,<-h3,List.take_set]
theorem iC.tail {w:World} {g cap:Nat} {e:TypeId} {d:List Int}:∀{vs:List Value} {wr:World} {o:Nat},iC w g cap e d wr->d.length<=o->iC w g cap e d (wr.setCells g o vs)
 | [],_,_,h,_=>h
 | v :: vs,wr,o,h,ho=>by
  refine iC.tail (vs:=vs) (wr:=wr.setCell ⟨g,o,none⟩ v) ⟨h.bx.trans ⟨rfl,rfl,rfl,le_of_eq (World.size_setCell ..).symm,fun b _ hb=>Below.heap_setCell _ _ _ _ hb⟩,?_⟩ J
  obtain⟨cur,h1,h2,h3⟩:=h.row
  refine⟨_,mI h1 _,by rw[Array.size_setIfInBounds]; exact h2,?_⟩
  rw[Array.toList_setIfInBounds,List.take_set_of_le ho]
  exact h3
theorem iC.cut {w wr:World} {g cap:Nat} {e:TypeId} {d:List Int} (h:iC w g cap e d wr) (i:Nat):iC w g cap e (d.take i) wr:=by
 refine⟨h.bx,?_⟩
 obtain⟨cur,h1,h2,h3⟩:=h.row
 refine⟨cur,h1,h2,?_⟩
 rw[length_take,List.map_take,<-h3,List.take_take]
theorem iC.grow {w wr:World} {g cap base:Nat} {e:TypeId} {d:List Int} (h:iC w g cap e d wr) (hb:base<=g) (hd:d.length<=cap) (hc:cap<=maxLen) (hI:∀x ∈ d,bU x):bh Ty.int.rp base wr e (.slice (some ⟨g,0,none⟩) d.length cap) d (replicate d.length []):=by
 obtain⟨cur,h1,h2,h3⟩:=h.row
 have hs1:Ty.int.rp.size=1:=rfl
 refine⟨d.map (Value.int .i64),⟨by rw[length_map,hs1,Nat.mul_one],.inr ⟨g,cap,cur,rfl,hb,h1,hd,hc,by rw[hs1,Nat.mul_one]; exact h2,by rw[hs1,Nat.mul_one]; exact h3⟩⟩,by rw[length_replicate],fun i x hx=>?_⟩
 obtain⟨hi,hx⟩:=List.getElem?_eq_some_iff.1 hx
 subst hx
 refine⟨[],[.int .i64 d[i]],by simp[hi],yA (hI _ (getElem_mem hi)),fun j v hj=>?_⟩
 have hj2:j=0:=by have:=(List.getElem?_eq_some_iff.1 hj).1; simp at this; omega
 subst hj2
 rw[hs1,show i * 1+0=i from J,getElem?_map,getElem?_eq_getElem hi]
 exact hj
theorem iC.by {w wr:World} {g cap:Nat} {e:TypeId} {d:List Int} (h:iC w g cap e d wr):w.grownBy wr (some g):=⟨h.bx.os,h.bx.tape,h.bx.output,h.bx.size,fun k hk hne=>h.bx.block k hk fun e=>hne (by rw[e])⟩
theorem FU {p:Int->Bool} {l:List Int} (h:∀j,j < l.length->p (ni l j)=false):(l.filter fun y=>!p y)=l:=by
 refine List.filter_eq_self.2 fun y hy=>?_
 obtain⟨j,hj,rfl⟩:=getElem_of_mem hy
 have:=h j hj
 rw[cd hj] at this
 rw[this]; rfl
theorem Xx {p:Int->Bool} {l:List Int} (h:¬ ∀j,j < l.length->p (ni l j)=false):∃k,k < l.length/\p (ni l k)=true/\∀j,j < k->p (ni l j)=false:=by
 have hs:∀n,(∀j,j < n->j < l.length->p (ni l j)=false)\/∃k,k < l.length/\p (ni l k)=true/\∀j,j < k->p (ni l j)=false:=by
  intro n
  induction n with
  | zero=>exact .inl fun j hj=>absurd hj (not_lt_zero _)
  | succ n ih =>
   rcases ih with ih|ih
   ·by_cases hn:n < l.length
    ·cases hp:p (ni l n)
     ·exact .inl fun j hj hl=>by
       by_cases e:j=n
       ·rw[e]; exact hp
       ·exact ih j J hl
     ·exact .inr ⟨n,hn,hp,fun j hj=>ih j hj J⟩
    ·exact .inl fun j hj hl=>ih j J hl
   ·exact .inr ih
 rcases hs l.length with h1|h1
 ·exact absurd (fun j hj=>h1 j hj hj) h
 ·exact h1
theorem tP {l:List Int} {j:Nat} (h:j < l.length):l.take (j+1)=l.take j++[ni l j]:=by
 rw[List.take_add_one,getElem?_eq_getElem h,cd h]; rfl
theorem UT {p:Int->Bool} {l:List Int} {k:Nat} (hk:k<=l.length) (h:∀j,j < k->p (ni l j)=false):(l.take k).filter (fun y=>!p y)=l.take k:=FU fun j hj=>by
 rw[length_take] at hj
 have:ni (l.take k) j=ni l j:=by rw[cd (by rw[length_take]; omega),cd J,List.getElem_take]
 rw[this]; exact h j J
theorem adn {w:World} {A:Ty} {x:A.den} {cs:List Value} {fp:List Nat} (h:A.rp.rep w cs x fp):aA (fun v d=>∃fp,bV w v d fp/\∀b ∈ fp,(fun _=>True) b) cs (kx A x):=Nl h
theorem LX {w:World} {v:Value} {b:Bool} {fp:List Nat} (h:bV w v ⟨.bool,b⟩ fp):v=.bool b:=by
 obtain⟨cs,hp,h1,_⟩:=h
 rcases hp with ⟨h2,_⟩|⟨_,h2⟩
 ·cases h2
 ·rw[h2] at h1; injection h1
theorem pR (F:FuncId) (A:Ty) (x:A.den) (p:Int->Bool) (l:List Int) (hF:∀y ∈ l,Fn prog F (⟨.int,y⟩ :: kx A x) false [⟨.bool,p y⟩]) (hn:l.length<=1000000000):VR prog 280 [⟨.ext (.ie F) A,some x⟩] 3 .int l (l.filter fun y=>!p y):=by
 have hX:=lG F A x p l hF
 refine⟨enters_of func280 ai rfl,fun w base v us fps hG hown htab hone hg ha=>?_⟩
 match us,ha with
 | [u],⟨⟨fp,hdr,hfp⟩,_⟩ =>
  obtain⟨fr,hrow,_⟩:=Aj hg
  have hdr2:bV w v ⟨aq,l⟩ fr:=⟨[v],.inr ⟨rfl,rfl⟩,hrow⟩
  have hI:=(hX.2 w [v,u] (fun _=>True) hG ⟨⟨fr,hdr2,fun _ _=>trivial⟩,⟨fp,hdr,fun _ _=>trivial⟩,trivial⟩)
  have hI2:Calls prog 235 #[v,u] w fun e w'=>e=.returned (.int .i64 (jL (t:=.int) p l))/\Below w.heap.size w w':=hI.mono (by
   rintro e w' ⟨hb,u,rfl,fq,hd,_⟩
   rw[vU hd]; exact⟨rfl,hb⟩)
  clear hI hX
  obtain⟨cs0,hpk,hrp⟩:=hdr
  rcases hpk with ⟨h,_⟩|⟨_,rfl⟩
  ·cases h
  obtain⟨caps,e1,hcap⟩:=hrp
  injection e1 with e1
  subst e1
  by_cases hall:∀j,j < l.length->p (ni l j)=false
  ·rw[fP (t:=.int) (p:=p) (l:=l) hall] at hI2
   rw[FU hall]
   obtain⟨ad,cap,rfl⟩:=qC hg
   go_enter func280,ntmps280
   go_wp2_with (go_at_call 235; refine hI2.mono ?_)
   rintro e w' rfl hb
   go_wp2
   go_ret
   exact⟨_,fps,rfl,hone,rfl,hg.frame (fun b hb'=>hb.block b (hg.own hb').2) (fun b hb'=>hb.block b (hg.lt b hb')),⟨hb.os,hb.tape,hb.output,hb.size,fun k hk _=>hb.block k hk⟩,fun _ h=>h⟩
  ·obtain⟨k,hk,hpk,hmin⟩:∃k,k < l.length/\p (ni l k)=true/\∀j,j < k->p (ni l j)=false:=by
    exact Xx hall
   rw[jy (t:=.int) (p:=p) hk hpk (fun j hj=>hmin j hj)] at hI2
   obtain⟨g,cap,cur,rfl,hb,hgg,hnc,hcm,hcs,hH,hII⟩:=L7 hg J
   have hgs:g < w.heap.size:=(Array.getElem?_eq_some_iff.1 hgg).1
   have hR0:iC w g cap 3 l w:=⟨⟨rfl,rfl,rfl,le_refl _,fun _ _ _=>rfl⟩,cur,hgg,hcs,by
    refine List.ext_getElem? fun j=>?_
    rw[List.getElem?_take,getElem?_map]
    by_cases hj:j < l.length
    ·have:=(hH j (by simpa using hj)).1
     rw[zero_add,cell_of_row w g j cur 3 (0,0) hgg,<-Array.getElem?_toList,getElem!_pos l.toArray j (by simpa using hj)] at this
     rw[if_pos hj,this,getElem?_eq_getElem hj]; rfl
    ·rw[if_neg hj,List.getElem?_eq_none J]; rfl⟩
   have hcall:∀(wr:World) (d:List Int) (y:Int),y ∈ l->iC w g cap 3 d wr->Calls prog F (.int .i64 y :: caps).toArray wr fun e w'=>e=.returned (.bool (p y))/\Below wr.heap.size wr w':=by
    intro wr d y hy hR
    have hGr:Gw prog wr:=hG.Mk hR.bx fun q hq=>⟨(hG q hq).1,fun e=>htab g rfl q hq e.symm⟩
    have hc2:=A.rp.frame hcap (w':=wr) fun b hb'=>hR.bx.block b (A.rp.lt hcap b hb') fun e=>hfp b hb' (by rw[e]; rfl)
    have hI3:=(hF y hy).2 wr (.int .i64 y :: caps) (fun _=>True) hGr ⟨⟨[],⟨[.int .i64 y],.inr ⟨rfl,rfl⟩,yA (hII y hy)⟩,fun _ _=>trivial⟩,adn hc2⟩
    refine Calls.mono hI3 ?_
    rintro e w' ⟨hb2,u,rfl,fq,hd,_⟩
    rw[LX hd]; exact⟨rfl,hb2⟩
   have eg:∀vs w,(callFunc F vs).run prog w=.ok (.enter F vs) w:=(hF _ (getElem_mem hk)).1
   clear hg hH
   go_enter func280,ntmps280
   go_wp2_with (go_at_call 235; refine hI2.mono ?_)
   rintro e w' rfl hb1
   have hR1:=hR0.below hgs hb1
   have hkn:¬ (k:Int)=-1:=J
   go_wp2
   go_loopg [5,6,7] l.length (fun gg s5 s6 _ wr=>∃(i j:Nat) (d:List Int),s5=.int .i64 i/\s6=.int .i64 j/\i < j/\j<=l.length/\l.length - j<=gg/\d.length=l.length/\Hid (d.take i=(l.take j).filter fun y=>!p y)/\Hid (∀t,j<=t->ni d t=ni l t)/\Hid (iC w g cap 3 d wr))
   case atStart=>exact⟨k,k+1,l,rfl,by go_num,J,J,J,rfl,Lib.hid (by rw[tP hk,List.filter_append,UT J hmin,List.filter_cons,hpk]; simp),Lib.hid (fun _ _=>rfl),Lib.hid hR1⟩
   case round =>
    obtain⟨i,j,d,rfl,rfl,hij,hjn,hgg2,hdl,H1,H2,H3⟩:=hrel
    by_cases hlt:j < l.length
    ·have hltz:(j:Int) < (l.length:Int):=J
     have cj:=H3.out.cell (j:=j) J
     rw[H2.out j (le_refl _)] at cj
     have hc1:=hcall wr d (ni l j) (by rw[cd hlt]; exact getElem_mem hlt) H3.out
     generalize hu:ni l j=u at cj hc1
     have C:=Lib.hid hu
     clear hu
     cases hq:p u with
     | false =>
      rw[hq] at hc1
      have Q:=Lib.hid hq
      clear hq
      go_wp2_with (go_at_fn F; refine hc1.mono ?_)
      rintro e w' ⟨rfl,hb2⟩
      have H4:=Lib.hid (H3.out.below hgs hb2)
      have ci:=H4.out.cell (j:=i) J
      have fi:=H4.out.tR i
      generalize ni d i=pM at ci
      clear hb2 cj hc1
      go_wp2
      go_roundg (l.length - (j+1))
      case measure=>omega
      case rel =>
       refine⟨i+1,j+1,d.set i u,by go_num,by go_num,J,J,le_refl _,by rw[length_set]; exact hdl,Lib.hid ?_,Lib.hid (fun t ht=>?_),Lib.hid ?_⟩
       ·rw[tP hlt,List.filter_append,<-H1.out,C.out,List.filter_cons,Q.out,tP (by rw[length_set]; omega),Ai J,List.take_set_of_le (le_refl _)]; rfl
       ·rw[xn J,if_neg J]
        exact H2.out t J
       ·exact H4.out.set J
     | true =>
      rw[hq] at hc1
      have Q:=Lib.hid hq
      clear hq
      go_wp2_with (go_at_fn F; refine hc1.mono ?_)
      rintro e w' ⟨rfl,hb2⟩
      have H4:=Lib.hid (H3.out.below hgs hb2)
      clear hb2 cj hc1
      go_wp2
      go_roundg (l.length - (j+1))
      case measure=>omega
      case rel =>
       refine⟨i,j+1,d,rfl,by go_num,J,J,le_refl _,hdl,Lib.hid ?_,Lib.hid (fun t ht=>H2.out t J),H4⟩
       rw[tP hlt,List.filter_append,<-H1.out,C.out,List.filter_cons,Q.out]; simp
    ·obtain rfl:j=l.length:=J
     have hltz:¬ (l.length:Int) < (l.length:Int):=J
     have hcl:∀ty,(Builtin.clear_ #[31] ty #[.slice (some ⟨g,i,none⟩) (l.length - i) (cap - i)]).run prog wr=.ok (.tuple #[]) (wr.setCells g i (replicate (l.length - i) (.int .i64 0))) :=
      fun ty=>Lib.run_clear_slice wr _ _ ty _ Tryz.underlying31 (fun w=>Tryz.zeroValue3 w) rfl rfl g i _ _ J (fun t ht=>by rw[H3.out.cell (j:=i+t) J]; rfl) (fun t ht=>H3.out.tR (i+t))
     have hfin:(l.filter fun y=>!p y)=d.take i:=by rw[H1.out,take_length]
     have hil:(d.take i).length=i:=by rw[length_take]; omega
     have hR:=((H3.out.cut i).tail (vs:=replicate (l.length - i) (.int .i64 0)) (o:=i) J)
     have hId:∀x ∈ d.take i,bU x:=fun x hx=>hII x ((mem_filter.1 (hfin ▸ hx)).1)
     have hG2:=hR.grow hb J hcm hId
     rw[hil] at hG2
     have hB:=hR.by
     rw[<-hfin] at hG2
     clear hR hfin H1 H2 H3 hcall hI2
     go_wp2
     go_ret
     exact⟨_,rfl,rfl,rfl,_,hG2,hB,fun b x hx hb=>by rw[(mem_replicate.1 hx).2] at hb; cases hb⟩
theorem BC (F:FuncId) (A:Ty) (x:A.den):Fn prog 280 [⟨aq,[]⟩,⟨.ext (.ie F) A,some x⟩] false [⟨aq,[]⟩]:=by
 have c1:=lG F A x (fun _=>false) [] (fun y hy=>by cases hy)
 rw[fP (t:=.int) (p:=fun _=>false) (l:=[]) (fun j hj=>by simp at hj)] at c1
 refine fe func280 ntmps280 results280 fun hwf=>?_
 refine Sz ?_
 refine cw c1 ?_
 try simp (maxSteps:=9^9) only[go_sem]
theorem L8 {P:Program} {f:FuncId} {args:List aL} (h:Fn P f args false [⟨aq,[]⟩]):Fn P f args true [⟨aq,[]⟩]:=by
 refine⟨h.1,fun w vs S hg ha=>(h.2 w vs S hg ha).mono ?_⟩
 rintro en w' ⟨hb,v,rfl,fp,⟨cs,hp,hr⟩,_,hfp⟩
 have h0:fp=[]:=by
  obtain⟨ad,cc,_,_,_,⟨_,h⟩|⟨_,_,_,h,_⟩⟩:=hr
  ·exact h
  ·exact absurd rfl h
 subst h0
 exact⟨hb,v,rfl,[],⟨cs,hp,hr⟩,fun _=>pO _ _,fun b hb=>by cases hb⟩
theorem xt.own {P:Program} {f:FuncId} {args:List aL} {e:TypeId} {l:List Int} (h:xt P f args e .int l):Fn P f args true [⟨aq,l⟩]:=by
 refine⟨h.1,fun w vs S hg ha=>(h.2 w vs S hg ha).mono ?_⟩
 rintro en w' ⟨hb,v,fps,rfl,h1,hgr,ho,hne⟩
 have hfl:fps.flatten=[]:=u9 (t:=.int) rfl hgr
 obtain⟨fp,hr,hf⟩:=Aj hgr
 rw[hfl] at hf
 refine⟨hb,v,rfl,fp,⟨[v],.inr ⟨rfl,rfl⟩,hr⟩,fun _=>?_,fun b hbf=>?_⟩
 ·rcases hf with rfl|⟨g,_,rfl,h2,h3⟩
  ·exact pO _ _
  ·exact⟨nodup_cons.2 ⟨(fun h=>by cases h),nodup_nil⟩,fun b hb=>by rw[mem_singleton.1 hb]; exact⟨h2,h3⟩⟩
 ·rcases hf with rfl|⟨g,_,rfl,h2,_⟩
  ·cases hbf
  ·rw[mem_singleton.1 hbf]; exact .inr h2
theorem YT (c k:Int) (l:List Int):Fn prog 328 [⟨.int,c⟩,⟨.ext .ref .int,some k⟩,⟨.ext .ref aq,some l⟩] false [⟨.bool,!decide (c=k) && l.any fun y=>decide (c=y)⟩]:=by
 have c1:=nK l c
 by_cases g:c=k
 ·rw[aj g]
  have e:=aj g
  refine fe func328 ntmps328 results328 fun hwf=>?_
  exact Gz e
 ·rw[ak g]
  have e:=ak g
  refine fe func328 ntmps328 results328 fun hwf=>?_
  refine Tz e ?_
  refine cw c1 ?_
  all_goals exact Fz
theorem Lw (w:World) (v:Value) (e:TypeId):(w.alloc (.cells #[v] e)).cell? ⟨w.heap.size,0,none⟩=some v:=by
 rw[cell_of_row (w.alloc (.cells #[v] e)) w.heap.size 0 #[v] e (0,0) (by show (w.heap.push _)[w.heap.size]? = _; exact Array.getElem?_push_size)]
 rfl
theorem RV {w:World} {v:Value} {t:Ty} {x:t.den} {fp:List Nat} (h:bV w v ⟨.ext .ref t,some x⟩ fp):∃b o cs f,v=.pointer (some ⟨b,o,none⟩)/\fp=b :: f/\t.rp.rep w cs x f/\∀j u,cs[j]? = some u->w.cell? ⟨b,o+j,none⟩=some u:=by
 obtain⟨cs,hp,hr⟩:=h
 rcases hp with ⟨h,_⟩|⟨_,rfl⟩
 ·cases h
 obtain⟨b,o,cs',f,e1,e2,h1,h2⟩:=hr
 injection e1 with e1
 exact⟨b,o,cs',f,e1,e2,h1,h2⟩
theorem XP (k:Int) (F l:List Int):Fn prog 327 [⟨.int,k⟩,⟨.ext .ref aq,some F⟩,⟨.ext .ref aq,some l⟩] false [⟨.bool,!(F.any fun c=>!decide (c=k) && l.any fun y=>decide (c=y))⟩]:=by
 refine⟨enters_of func327 ai rfl,fun w vs S hg ha=>?_⟩
 match vs,ha with
 | [vk,vF,vl],⟨⟨f0,hk,_⟩,⟨f1,hF,_⟩,⟨f2,hl,_⟩,_⟩ =>
  have hI:bU k:=by
   obtain⟨cs,hp,hr⟩:=hk
   exact hr.2.2
  obtain rfl:=vU hk
  have hl0:=hl
  obtain⟨bF,oF,cF,fF,rfl,rfl,hrF,hcF⟩:=RV hF
  obtain⟨bl,ol,cl,fl,rfl,rfl,hrl,hcl⟩:=RV hl
  obtain⟨adF,ccF,rfl,hccF⟩:=hrF
  have hgF:=hcF 0 _ rfl
  rw[Nat.add_zero] at hgF
  have hBF:bF < w.heap.size:=World.block_lt_of_cell? _ _ hgF
  let w1:=w.alloc (.cells #[.int .i64 k] 3)
  have hb1:Below w.heap.size w w1:=(Below.refl _ w).alloc (le_refl _) _
  have hgF1:=(hb1.cell (p:=⟨bF,oF,none⟩) hBF).trans hgF
  have hg1:Gw prog w1:=hg.Mk (ep.of hb1) fun q hq=>⟨(hg q hq).1,id⟩
  have hcon:=(uX 328 (.prod (.ext .ref .int) (.ext .ref aq)) (some k,some l) (fun c=>!decide (c=k) && l.any fun y=>decide (c=y)) F (fun c _=>YT c k l)).2 w1 [.slice adF F.length ccF,.func (.func 328) #[] #[.pointer (some ⟨w.heap.size,0,none⟩),.pointer (some ⟨bl,ol,none⟩)]] (fun _=>True) hg1
  have hdF:bV w1 (.slice adF F.length ccF) ⟨aq,F⟩ fF:=⟨[_],.inr ⟨rfl,rfl⟩,aq.rp.frame (show aq.rp.rep w _ F fF from ⟨adF,ccF,rfl,hccF⟩) fun b hb=>hb1.block b (aq.rp.lt (show aq.rp.rep w _ F fF from ⟨adF,ccF,rfl,hccF⟩) b hb)⟩
  have hgk:w1.cell? ⟨w.heap.size,0,none⟩=some (.int .i64 k):=by
   show (w.alloc _).cell? _=_
   exact Lw w _ _
  have hl1:(Ty.ext .ref aq).rp.rep w1 [.pointer (some ⟨bl,ol,none⟩)] (some l) (bl :: fl):=(Ty.ext .ref aq).rp.frame (show (Ty.ext .ref aq).rp.rep w _ (some l) (bl :: fl) from ⟨bl,ol,cl,fl,rfl,rfl,hrl,hcl⟩) fun b hb=>hb1.block b ((Ty.ext .ref aq).rp.lt (show (Ty.ext .ref aq).rp.rep w _ (some l) (bl :: fl) from ⟨bl,ol,cl,fl,rfl,rfl,hrl,hcl⟩) b hb)
  have hdC:bV w1 (.func (.func 328) #[] #[.pointer (some ⟨w.heap.size,0,none⟩),.pointer (some ⟨bl,ol,none⟩)]) ⟨.ext (.ie 328) (.prod (.ext .ref .int) (.ext .ref aq)),some (some k,some l)⟩ ([w.heap.size]++(bl :: fl)):=⟨[_],.inr ⟨rfl,rfl⟩,_,rfl,[.pointer (some ⟨w.heap.size,0,none⟩)],[.pointer (some ⟨bl,ol,none⟩)],[w.heap.size],bl :: fl,rfl,rfl,⟨w.heap.size,0,[.int .i64 k],[],rfl,rfl,yA hI,fun j u hj=>by
   have hj0:j=0:=by have:=(List.getElem?_eq_some_iff.1 hj).1; simp at this; omega
   subst hj0
   injection hj with hj; subst hj
   exact hgk⟩,hl1⟩
  have hc2:=hcon ⟨⟨fF,hdF,fun _ _=>trivial⟩,⟨_,hdC,fun _ _=>trivial⟩,trivial⟩
  have hc3:Calls prog 156 #[.slice adF F.length ccF,.func (.func 328) #[] #[.pointer (some ⟨w.heap.size,0,none⟩),.pointer (some ⟨bl,ol,none⟩)]] w1 fun e w'=>e=.returned (.bool (F.any fun c=>!decide (c=k) && l.any fun y=>decide (c=y)))/\Below w1.heap.size w1 w':=hc2.mono (by
   rintro e w' ⟨hb,u,rfl,fq,hd,_⟩
   rw[LX hd]; exact⟨rfl,hb⟩)
  clear hc2 hcon hdF hdC hl1 hgk hg1
  have hgF1:w1.cell? ⟨bF,oF,none⟩=some (.slice adF F.length ccF):=hgF1
  generalize (F.any fun c=>!decide (c=k) && l.any fun y=>decide (c=y))=g at *
  go_enter func327,ntmps327
  go_wp2_with (go_at_call 156; refine hc3.mono ?_)
  rintro e w' ⟨rfl,hb⟩
  go_wp2
  go_ret
  exact⟨hb1.trans (hb.mono hb1.size),_,rfl,Fg⟩
theorem KH (n:Nat) (D:List DV) (F:List Int) (wall:Int):da n D F wall=(j4 n D wall).filter fun k=>!(!(F.any fun c=>!decide (c=k) && (j4 n D wall).any fun y=>decide (c=y))):=rfl
theorem vc (x:bk) (F:List Int) (wall:Int) (hC:x.2.2.2.2.1.length<=1000000) (hD:x.2.2.2.2.2.2.1.length<=100000000) (h0:0 < (j4 x.2.2.2.2.1.length x.2.2.2.2.2.2.1 wall).length):xt prog 281 [⟨aP,x⟩,⟨aq,F⟩,⟨.int,wall⟩] 3 .int (da x.2.2.2.2.1.length x.2.2.2.2.2.2.1 F wall):=by
 have c1:=Dh x wall hC hD
 have hl:=HV (n:=x.2.2.2.2.1.length) (D:=x.2.2.2.2.2.2.1) wall
 have he:=KH x.2.2.2.2.1.length x.2.2.2.2.2.2.1 F wall
 rw[he]
 generalize j4 x.2.2.2.2.1.length x.2.2.2.2.2.2.1 wall=l at *
 have c2:=qp l h0 J
 have c3:=pR 327 (.prod (.ext .ref aq) (.ext .ref aq)) (some F,some l) (fun k=>!(F.any fun c=>!decide (c=k) && l.any fun y=>decide (c=y))) l (fun k _=>XP k F l) J
 obtain⟨hd,o,⟨⟨b1,b2⟩,⟨b3,b4⟩⟩,a,C,W,D,T⟩:=x
 refine pz bK bA func281 rfl rfl _ ntmps281 _ results281 ah fun hwf=>?_
 refine Cz c1 ?_
 refine aO.g (c2) ?_
 refine Sz ?_
 refine jl.r (oo:=true) (c3) ?_
 refine Sz ?_
 exact⟨3,1,rfl,rfl⟩
theorem Bp (x:bk) (F:List Int) (wall:Int) (hC:x.2.2.2.2.1.length<=1000000) (hD:x.2.2.2.2.2.2.1.length<=100000000) (h0:j4 x.2.2.2.2.1.length x.2.2.2.2.2.2.1 wall=[]):Fn prog 281 [⟨aP,x⟩,⟨aq,F⟩,⟨.int,wall⟩] true [⟨aq,[]⟩]:=by
 have c1:=Dh x wall hC hD
 rw[h0] at c1
 have c2:=jU [] ae
 have c3:=L8 (BC 327 (.prod (.ext .ref aq) (.ext .ref aq)) (some F,some []))
 obtain⟨hd,o,⟨⟨b1,b2⟩,⟨b3,b4⟩⟩,a,C,W,D,T⟩:=x
 refine fe func281 ntmps281 results281 fun hwf=>?_
 refine Cz c1 ?_
 refine cw c2 ?_
 refine Sz ?_
 refine jl.ow (c3) ?_
 try simp (maxSteps:=9^9) only[go_sem]
theorem Gc (x:bk) (F:List Int) (wall:Int) (hC:x.2.2.2.2.1.length<=1000000) (hD:x.2.2.2.2.2.2.1.length<=100000000):Fn prog 281 [⟨aP,x⟩,⟨aq,F⟩,⟨.int,wall⟩] true [⟨aq,da x.2.2.2.2.1.length x.2.2.2.2.2.2.1 F wall⟩]:=by
 by_cases h0:j4 x.2.2.2.2.1.length x.2.2.2.2.2.2.1 wall=[]
 ·have:=Bp x F wall hC hD h0
  rw[KH,h0]
  exact this
 ·exact (vc x F wall hC hD (by
   cases h:j4 x.2.2.2.2.1.length x.2.2.2.2.2.2.1 wall with
   | nil=>exact absurd h h0
   | cons a l=>exact Nat.succ_pos _)).own
theorem Uj (x:bk) (frm:Int) (ws:List Int) (to:Int) (hC:x.2.2.2.2.1.length<=1000000) (hD:x.2.2.2.2.2.2.1.length<=100000000):Fn prog 283 [⟨aP,x⟩,⟨.int,frm⟩,⟨aq,ws⟩,⟨.int,to⟩] false [⟨.bool,qd x.2.2.2.2.1.length x.2.2.2.2.2.2.1 frm ws to⟩]:=by
 have c1:=fun (F:List Int) (w:Int)=>Gc x F w hC hD
 have c2:=fun (l:List Int)=>nK l to
 have hend:qd x.2.2.2.2.1.length x.2.2.2.2.2.2.1 frm ws to=(mV x.2.2.2.2.1.length x.2.2.2.2.2.2.1 [frm] ws).any fun y=>decide (to=y):=rfl
 rw[hend]
 have hstep:∀i,i < ws.length->mV x.2.2.2.2.1.length x.2.2.2.2.2.2.1 [frm] (ws.take (i+1))=da x.2.2.2.2.1.length x.2.2.2.2.2.2.1 (mV x.2.2.2.2.1.length x.2.2.2.2.2.2.1 [frm] (ws.take i)) (ni ws i):=fun i hi=>by rw[tP hi,Nj]
 have h0:mV x.2.2.2.2.1.length x.2.2.2.2.2.2.1 [frm] (ws.take 0)=[frm]:=rfl
 have hT:ws.take ws.length=ws:=take_length
 obtain⟨hd,o,⟨⟨b1,b2⟩,⟨b3,b4⟩⟩,a,C,W,D,T⟩:=x
 dsimp only at *
 refine fe func283 ntmps283 results283 fun hwf=>?_
 have hlw:ws.length<=9223372036854775807:=(hwf ⟨aq,ws⟩ ah).1
 refine Nz ?_
 refine aF.intro _ _ _ (fun i:Nat=>⟨[(3,.sc (.int .i64 to)),(4,.ptr 0 0),(9,.sl .int (mV C.length D [frm] (ws.take i))),(14,.sl .int ws),(15,.sc (.int .i64 ws.length)),(16,.sc (.int .i64 i))],[(0,.box (xS (hd,o,((b1,b2),(b3,b4)),a,C,W,D,T)))]⟩) (fun i=>i<=ws.length) (fun i=>ws.length - i) 0 ?_ (zero_le _) ?_
 ·rw[h0]
  exact WK
 ·rintro i hi
  refine Nz ?_
  refine ao ?_ ?_<;>intro hA
  ·have hit:i < ws.length:=J
   have e:=hstep i hit
   have c3:=c1 (mV C.length D [frm] (ws.take i)) (ni ws i)
   generalize mV C.length D [frm] (ws.take i)=F at *
   refine Cz c3 ?_
   refine az.mk (i+1) ?_ J J
   rw[e]
   exact WK
  ·obtain rfl:i=ws.length:=J
   rw[hT]
   have c3:=c2 (mV C.length D [frm] ws)
   generalize mV C.length D [frm] ws=F at *
   refine Sz ?_
   refine cw c3 ?_
   all_goals exact Fz
theorem FE {l m:List Int} {i:Nat} (h:l <+: m) (hi:i < l.length):ni m i=ni l i:=by
 obtain⟨t,rfl⟩:=h
 exact qQ hi
theorem RN {l:List Int} {i:Nat} (hi:i < l.length):ni (l.drop i) 0=ni l i:=by
 rw[yD hi]; rfl
theorem drop_one {l:List Int} {i:Nat} (hi:i < l.length):(l.drop i).take 1=[ni l i]:=by
 rw[yD hi]; rfl
theorem PH (x:bk) (to:Nat) (ht:to < x.2.2.2.2.1.length) (hC:x.2.2.2.2.1.length<=1000000) (hD:x.2.2.2.2.2.2.1.length<=100000000):Fn prog 321 [⟨aP,x⟩,⟨.int,(to:Int)⟩] false [⟨aq,eG x.2.2.2.2.1.length x.2.2.2.2.2.2.1 to⟩]:=by
 have c0:=Cm x hD
 have c1:=fun (F:List Int) (w:Int)=>Gc x F w hC hD
 have hB:=fun i=>Ic (n:=x.2.2.2.2.1.length) (D:=x.2.2.2.2.2.2.1) ht i
 have hE:=fun i h1 h2=>Z7 (n:=x.2.2.2.2.1.length) (D:=x.2.2.2.2.2.2.1) (i:=i) ht h1 h2
 have hW:=fun (s:wW) (c:Int) (h:BF x.2.2.2.2.1.length x.2.2.2.2.2.2.1 to s) (hc:c ∈ s.2) j hj=>HP (n:=x.2.2.2.2.1.length) (D:=x.2.2.2.2.2.2.1) (to:=to) (s:=s) (c:=c) h hc j hj
 have hI:∀i,gQ x.2.2.2.2.1.length x.2.2.2.2.2.2.1 to (i+1)=if i < (gQ x.2.2.2.2.1.length x.2.2.2.2.2.2.1 to i).2.length then wA x.2.2.2.2.1.length x.2.2.2.2.2.2.1 (ni (gQ x.2.2.2.2.1.length x.2.2.2.2.2.2.1 to i).2 i) (gQ x.2.2.2.2.1.length x.2.2.2.2.2.2.1 to i) (dj x.2.2.2.2.2.2.1).length else gQ x.2.2.2.2.1.length x.2.2.2.2.2.2.1 to i:=fun _=>rfl
 have hI0:gQ x.2.2.2.2.1.length x.2.2.2.2.2.2.1 to 0=((replicate x.2.2.2.2.1.length (-1)).set to 0,[(to:Int)]):=rfl
 obtain⟨hd,o,⟨⟨b1,b2⟩,⟨b3,b4⟩⟩,a,C,W,D,T⟩:=x
 dsimp only at *
 have cr:=Di (-1) C.length J
 have hwl:=J6 (D:=D)
 generalize hn:C.length=n at *
 refine fe func321 ntmps321 results321 fun hwf=>?_
 refine Sz ?_
 refine aO.g (cr) ?_
 refine Sz ?_
 refine aF.intro _ _ _ (fun i:Nat=>⟨[(1,.sc (.int .i64 to)),(2,.ptr 0 0),(5,.row 1 0),(6,.row 2 0)],[(0,.box (xS (hd,o,((b1,b2),(b3,b4)),a,C,W,D,T))),(1,.row 3 .int 0 true (gQ n D to i).1),(2,.ob none 0 (.je 3 .int ((gQ n D to i).2.drop i)))]⟩) (fun i=>i<=(gQ n D to i).2.length) (fun i=>n+1 - i) 0 ?_ (zero_le _) ?_
 ·rw[hI0]
  exact WZz [(1,2),(2,3)]
 ·rintro i hi
  have hb:=hB i
  have hcnt:=hb.Sk
  have hdl:((gQ n D to i).2.drop i).length=(gQ n D to i).2.length - i:=length_drop
  have hIi:=hI i
  refine Nz ?_
  refine ao ?_ ?_<;>intro hA
  ·have hiq:i < (gQ n D to i).2.length:=J
   rw[if_pos hiq] at hIi
   have hc:=jM hiq
   obtain⟨c0r,c1r⟩:=hb.ba _ hc
   generalize hs:gQ n D to i=s at *
   generalize hcc:ni s.2 i=c at *
   have hWj:=hW s c hb hc
   refine Cz c0 ?_
   refine aF.intro _ _ _ (fun j:Nat=>⟨[(1,.sc (.int .i64 to)),(2,.ptr 0 0),(5,.row 1 0),(6,.row 2 0),(27,.sl .int (dj D)),(28,.sc (.int .i64 (dj D).length)),(29,.sc (.int .i64 j))],[(0,.box (xS (hd,o,((b1,b2),(b3,b4)),a,C,W,D,T))),(1,.row 3 .int 0 true (wA n D c s j).1),(2,.ob none 0 (.je 3 .int ((wA n D c s j).2.drop i)))]⟩) (fun j=>j<=(dj D).length) (fun j=>(dj D).length - j) 0 ?_ (zero_le _) ?_
   ·show Wk _ ⟨_,[_,(1,.row 3 .int 0 true s.1),(2,.ob none 0 (.je 3 .int (s.2.drop i)))]⟩
    exact WK
   ·rintro j hj
    obtain⟨hbj,hpj⟩:=hWj j hj
    have hij:i < (wA n D c s j).2.length:=Nat.lt_of_lt_of_le hiq hpj.length_le
    have hcj:ni (wA n D c s j).2 i=c:=(FE hpj hiq).trans hcc
    have hnext:wA n D c s (j+1)=wb c (da n D [c] (ni (dj D) j)) (wA n D c s j) (da n D [c] (ni (dj D) j)).length:=rfl
    generalize hsj:wA n D c s j=sj at *
    have ht1:=drop_one hij
    rw[hcj] at ht1
    refine Nz ?_
    refine ao ?_ ?_<;>intro hB
    ·have hjw:j < (dj D).length:=J
     have hwm:=jM hjw
     have c2:=c1 ((sj.2.drop i).take 1) (ni (dj D) j)
     rw[ht1] at c2
     have hal:=yT (n:=n) (D:=D) [c] (ni (dj D) j)
     have har:=fun k (h:k ∈ da n D [c] (ni (dj D) j))=>uL h
     have hJ:=fun m hm=>Jp (wall:=ni (dj D) j) (l:=da n D [c] (ni (dj D) j)) hbj (by rw[<-hcj]; exact jM hij) hwm (fun k hk=>hk) m hm
     generalize hac:da n D [c] (ni (dj D) j)=ac at *
     have hdl2:(sj.2.drop i).length=sj.2.length - i:=length_drop
     refine Sz ?_
     rw[<-ht1] at c2
     repeat refine AI ?_
     refine aO.v (c2) ?_
     refine Sz ?_
     refine aF.intro _ _ _ (fun m:Nat=>⟨[(1,.sc (.int .i64 to)),(2,.ptr 0 0),(5,.row 1 0),(6,.row 2 0),(27,.sl .int (dj D)),(28,.sc (.int .i64 (dj D).length)),(29,.sc (.int .i64 j)),(37,.sl .int ac),(38,.sc (.int .i64 ac.length)),(39,.sc (.int .i64 m))],[(0,.box (xS (hd,o,((b1,b2),(b3,b4)),a,C,W,D,T))),(1,.row 3 .int 0 true (wb c ac sj m).1),(2,.ob none 0 (.je 3 .int ((wb c ac sj m).2.drop i)))]⟩) (fun m=>m<=ac.length) (fun m=>ac.length - m) 0 ?_ (zero_le _) ?_
     ·show Wk _ ⟨_,[_,(1,.row 3 .int 0 true sj.1),(2,.ob none 0 (.je 3 .int (sj.2.drop i)))]⟩
      exact WK
     ·rintro m hm
      obtain⟨hbm,hpm⟩:=hJ m hm
      have him:i < (wb c ac sj m).2.length:=Nat.lt_of_lt_of_le hij hpm.length_le
      have hcm:ni (wb c ac sj m).2 i=c:=(FE hpm hij).trans hcj
      have hnm:wb c ac sj (m+1)=zC c (wb c ac sj m) (ni ac m):=rfl
      generalize hsm:wb c ac sj m=sm at *
      have hq0:=RN him
      rw[hcm] at hq0
      have hlen:=hbm.len
      have hcn:=hbm.Sk
      have hhi:=hbm.hi i him
      rw[hcm] at hhi
      have hdl3:(sm.2.drop i).length=sm.2.length - i:=length_drop
      refine Nz ?_
      refine ao (fun hE=>?_) (fun hE=>?_)
      ·have hma:m < ac.length:=J
       obtain⟨k0,k1⟩:=har _ (jM hma)
       refine Sz ?_
       refine ao (fun hG=>?_) (fun hG=>?_)
       ·have e:zC c sm (ni ac m)=(sm.1.set (ni ac m).toNat (ni sm.1 c.toNat+1),sm.2++[ni ac m]):=if_pos hG
        rw[e] at hnm
        refine Tz hq0 ?_
        refine az.mk (m+1) ?_ J J
        rw[hnm]
        show Wk _ ⟨_,[_,(1,.row 3 .int 0 true (sm.1.set (ni ac m).toNat (ni sm.1 c.toNat+1))),(2,.ob none 0 (.je 3 .int ((sm.2++[ni ac m]).drop i)))]⟩
        rw[List.drop_append_of_le_length J]
        exact WK
       ·have e:zC c sm (ni ac m)=sm:=if_neg hG
        rw[e] at hnm
        refine Sz ?_
        refine az.mk (m+1) ?_ J J
        rw[hnm]
        exact WK
      ·obtain rfl:m=ac.length:=J
       refine Sz ?_
       refine az.mk (j+1) ?_ J J
       rw[hnext,hsm]
       exact WK
    ·obtain rfl:j=(dj D).length:=J
     have hdl2:(sj.2.drop i).length=sj.2.length - i:=length_drop
     have hcn:=hbj.Sk
     have e1:sj.2.drop (i+1)=(sj.2.drop i).drop 1:=by rw[List.drop_drop]
     refine Sz ?_
     refine az.mk (i+1) ?_ ?_ ?_
     ·rw[hIi,hsj,e1]
      exact WK
     ·rw[hIi,hsj]; omega
     ·omega
  ·have hi2:(gQ n D to i).2.length<=i:=J
   have hfar:=hE i J hi2
   rw[hfar]
   try simp (maxSteps:=9^9) only[go_sem]
theorem zY (s:ey) (h:Int) (hs:bp s=true) (hh:0<=h/\h<=3):Fn prog 204 [⟨cY,s⟩,⟨.int,h⟩] true [⟨.slice an,di s h⟩]:=by
 have p:=(de hs).zN
 have c1:=gA s
 rw[hs] at c1
 have c2:=kP h
 rw[aj hh] at c2
 have c3:=BU s.2.2.1 h p.ok (by have:=p.kd; omega) hh
 unfold di
 refine fe func204 ntmps204 results204 fun hwf=>?_
 refine Cz c1 ?_
 refine cw c2 ?_
 refine Sz ?_
 refine cw c3 ?_
 all_goals exact Fz
theorem wY (s:ey) (h:Int) (hn:(bp s && og h)=false):Fn prog 204 [⟨cY,s⟩,⟨.int,h⟩] false [⟨.dr .nil,()⟩]:=by
 have c1:=gA s
 have c2:=kP h
 unfold og at hn
 cases hs:bp s<;>rw[hs] at c1 hn
 ·refine fe func204 ntmps204 results204 fun hwf=>?_
  refine Sz ?_
  refine cw c1 ?_
  all_goals exact Fz
 ·rw[Bool.true_and] at hn
  rw[hn] at c2
  refine fe func204 ntmps204 results204 fun hwf=>?_
  refine Cz c1 ?_
  refine cw c2 ?_
  all_goals exact Fz
theorem KJ (l:List DV) (h0:0 < l.length):Fn prog 205 [⟨.slice an,l⟩] false [⟨an,(fg l).1⟩,⟨an,(fg l).2⟩]:=by
 refine fe func205 ntmps205 results205 fun hwf=>?_
 have hl:l.length<=9223372036854775807:=(hwf ⟨.slice an,l⟩ ah).1
 refine Sz ?_
 refine aF.intro _ _ _ (fun i:Nat=>⟨[(2,.ptr 0 0),(3,.ptr 1 0),(4,.ptr 2 0),(5,.ptr 3 0),(14,.sl an l),(15,.sc (.int .i64 l.length)),(16,.sc (.int .i64 i))],[(0,.box [.sc (.int .i64 0),.sc (.int .i64 0)]),(1,.box [.sc (.int .i64 0),.sc (.int .i64 0)]),(2,.box [.sc (.int .i64 (jC l i).1.1),.sc (.int .i64 (jC l i).1.2)]),(3,.box [.sc (.int .i64 (jC l i).2.1),.sc (.int .i64 (jC l i).2.2)])]⟩) (fun i=>i<=l.length) (fun i=>l.length - i) 0 ?_ (zero_le _) ?_
 ·exact WK
 ·rintro i hi
  refine Nz ?_
  refine ao ?_ ?_<;>intro hA
  ·refine Sz ?_
   refine az.mk (i+1) ?_ J J
   exact WK
  ·rw[show fg l=jC l i by unfold fg; rw[show i=l.length from J]]
   all_goals exact Fz
theorem J5 {s:ey} (hs:bp s=true) (h:Int):3<=(di s h).length/\(di s h).length<=5:=by
 have h1:=(uf hs h).iX.1.1
 have h2:=(uf hs h).kd
 omega
def Ae (s:ey) (h:Int):DV × DV:=if mJ s h then fh s h else ((0,0),(0,0))
theorem OP {s:ey} {h:Int} (e:mJ s h=true):Ae s h=fh s h:=if_pos e
theorem Db {s:ey} {h:Int} (e:mJ s h=false):Ae s h=((0,0),(0,0)):=if_neg (by rw[e]; decide)
theorem Nk {s:ey} {h:Int} (e:(bp s && og h)=false):mJ s h=false:=by
 unfold mJ
 rw[<-Bool.and_assoc,e]; rfl
theorem Dv {s:ey} {h:Int} (e:(bp s && og h)=true):mJ s h=UH s h:=by
 unfold mJ
 rw[<-Bool.and_assoc,e]; rfl
theorem HI (s:ey) (h:Int):Fn prog 131 [⟨cY,s⟩,⟨.int,h⟩] false [⟨tE,Ae s h⟩,⟨.bool,mJ s h⟩]:=by
 cases e:bp s && og h
 ·rw[Db (Nk e),Nk e]
  have c1:=wY s h e
  refine fe func131 ntmps131 results131 fun hwf=>?_
  refine Sz ?_
  refine cw c1 ?_
  all_goals exact Fz
 ·have es:=(and_eq_true_iff.1 e).1
  have eh:0<=h/\h<=3:=of_decide_eq_true (and_eq_true_iff.1 e).2
  have hb:=Xb es h
  have hl1:=dc (de es).low
  have hl2:=dc (de es).high
  have hr:=J5 es h
  have c1:=zY s h es eh
  have c2:=KJ (di s h) J
  have hlim:UH s h=(decide ((fh s h).1.1 < (fh s h).2.1) && decide ((fh s h).1.2 < (fh s h).2.2)):=rfl
  by_cases h1:(fh s h).1.1 < (fh s h).2.1
  rotate_left
  ·have el:mJ s h=false:=by rw[Dv e,hlim,ak h1]; rfl
   have d1:=aj (p:=s.1.1 - (fg (di s h)).1.1 ≥ s.2.1.1 - (fg (di s h)).2.1) (show (fh s h).2.1<=(fh s h).1.1 from J)
   rw[Db el,el]
   refine fe func131 ntmps131 results131 fun hwf=>?_
   refine Cz c1 ?_
   refine kT.CA (by intro e0; rw[e0] at hr; simp at hr) ?_
   refine Sz ?_
   refine cw c2 ?_
   try simp (maxSteps:=9^9) only[go_sem]
   repeat refine AI ?_
   try simp (maxSteps:=9^9) only[go_sem,d1]
   repeat refine AI ?_
   all_goals exact Gz d1
  have d1:=ak (p:=s.1.1 - (fg (di s h)).1.1 ≥ s.2.1.1 - (fg (di s h)).2.1) (show ¬ ((fh s h).2.1<=(fh s h).1.1) from J)
  by_cases h2:(fh s h).1.2 < (fh s h).2.2
  rotate_left
  ·have el:mJ s h=false:=by rw[Dv e,hlim,aj h1,ak h2]; rfl
   have d2:=aj (p:=s.1.2 - (fg (di s h)).1.2 ≥ s.2.1.2 - (fg (di s h)).2.2) (show (fh s h).2.2<=(fh s h).1.2 from J)
   rw[Db el,el]
   refine fe func131 ntmps131 results131 fun hwf=>?_
   refine Cz c1 ?_
   refine kT.CA (by intro e0; rw[e0] at hr; simp at hr) ?_
   refine Sz ?_
   refine cw c2 ?_
   try simp (maxSteps:=9^9) only[go_sem]
   repeat refine AI ?_
   try simp (maxSteps:=9^9) only[go_sem,d1,d2]
   repeat refine AI ?_
   all_goals exact CW d1 d2
  have d2:=ak (p:=s.1.2 - (fg (di s h)).1.2 ≥ s.2.1.2 - (fg (di s h)).2.2) (show ¬ ((fh s h).2.2<=(fh s h).1.2) from J)
  have el:mJ s h=true:=by rw[Dv e,hlim,aj h1,aj h2]; rfl
  rw[OP el,el]
  unfold fh
  refine fe func131 ntmps131 results131 fun hwf=>?_
  refine Cz c1 ?_
  refine kT.CA (by intro e0; rw[e0] at hr; simp at hr) ?_
  refine Sz ?_
  refine cw c2 ?_
  try simp (maxSteps:=9^9) only[go_sem]
  repeat refine AI ?_
  try simp (maxSteps:=9^9) only[go_sem,d1,d2]
  repeat refine AI ?_
  all_goals exact CW d1 d2
def xI (s:ey) (h:Int):List (List DV):=if bp s && og h then Ao s h else []
theorem y7 {s:ey} {h:Int} (e:(bp s && og h)=true):xI s h=Ao s h:=if_pos e
theorem yz {s:ey} {h:Int} (e:(bp s && og h)=false):xI s h=[]:=if_neg (by rw[e]; decide)
def BD (s:ey) (h:Int) (i:Nat):List (List DV):=(s.2.2.2.1.take i).map (EU (di s h))
theorem Zj {s:ey} {h:Int} {i:Nat} (hi:i<=s.2.2.2.1.length):(BD s h i).length=i:=by unfold BD; rw[length_map,length_take]; omega
theorem U2 {s:ey} {h:Int} {i:Nat} (hi:i < s.2.2.2.1.length):BD s h (i+1)=BD s h i++[EU (di s h) (nth (t:=.slice an) s.2.2.2.1 i)]:=by
 unfold BD
 rw[List.take_succ_eq_append_getElem hi,map_append,aM (t:=.slice an) hi]; rfl
theorem XM (s:ey) (h:Int):BD s h s.2.2.2.1.length=Ao s h:=by unfold BD Ao; rw[take_length]
theorem AJ (s:ey) (h:Int):Fn prog 132 [⟨cY,s⟩,⟨.int,h⟩] true [⟨iz,xI s h⟩]:=by
 cases e:bp s && og h
 ·rw[yz e]
  have c1:=wY s h e
  refine fe func132 ntmps132 results132 fun hwf=>?_
  refine Sz ?_
  refine cw c1 ?_
  all_goals exact Fz
 ·have es:=(and_eq_true_iff.1 e).1
  have eh:0<=h/\h<=3:=of_decide_eq_true (and_eq_true_iff.1 e).2
  have hr:=J5 es h
  have hno:=(de es).Pe
  have c1:=(zY s h es eh).sh
  rw[y7 e]
  refine fe func132 ntmps132 results132 fun hwf=>?_
  refine Cz c1 ?_
  refine kT.CA (by intro e0; rw[e0] at hr; simp at hr) ?_
  refine Sz ?_
  refine aF.intro _ _ _ (fun i:Nat=>⟨[(5,.sl an (di s h)),(6,.row 1 0),(16,.sl (.slice an) s.2.2.2.1),(17,.sc (.int .i64 s.2.2.2.1.length)),(18,.sc (.int .i64 i))],[(1,.row 25 (.slice an) 0 true (BD s h i))]⟩) (fun i=>i<=s.2.2.2.1.length) (fun i=>s.2.2.2.1.length - i) 0 ?_ (zero_le _) ?_
  ·exact WK
  ·rintro i hi
   refine Nz ?_
   refine ao ?_ ?_<;>intro hA
   ·have hlt:i < s.2.2.2.1.length:=J
    have hal:=Zj (s:=s) (h:=h) hi
    have c2:=C4 (di s h) (nth (t:=.slice an) s.2.2.2.1 i) (uf es h) ((de es).z7 _ (uZ (t:=.slice an) hlt)) ae
    refine Sz ?_
    refine cw c2 ?_
    try simp (maxSteps:=9^9) only[go_sem]
    refine Tz hal ?_
    refine az.mk (i+1) ?_ J J
    rw[U2 hlt]
    exact WK
   ·rw[show Ao s h=BD s h i by rw[show i=s.2.2.2.1.length from J,XM]]
    all_goals exact Fz
theorem Bo (F:FuncId) (A:Ty) (x:A.den) (p:(List DV)->Bool) (l:List (List DV)) (hF:∀y ∈ l,Fn prog F (⟨(.slice an),y⟩ :: kx A x) false [⟨.bool,p y⟩]):Fn prog 182 [⟨.slice (.slice an),l⟩,⟨.ext (.ie F) A,some x⟩] false [⟨.int,jL (t:=(.slice an)) p l⟩]:=by
 refine fe func182 ntmps182 results182 fun hwf=>?_
 have hl:l.length<=9223372036854775807:=(hwf ⟨.slice (.slice an),l⟩ ah).1
 refine Nz ?_
 refine aF.intro _ _ _ (fun i:Nat=>⟨[(0,.sl (.slice an) l),(1,.ex (.ie F) A (some x)),(7,.sc (.int .i64 l.length)),(8,.sc (.int .i64 i))],[]⟩) (fun i=>∀j < i,j < l.length->p (nth (t:=(.slice an)) l j)=false) (fun i=>l.length - i) 0 ?_ (fun j h=>by simp at h) ?_
 ·exact WK
 ·rintro i h2
  refine Nz ?_
  refine ao ?_ ?_<;>intro h3
  ·have c1:=hF (nth (t:=(.slice an)) l i) (uZ (t:=(.slice an)) J)
   refine Sz ?_
   refine qu.mk (c1) ?_
   refine Nz ?_
   refine ig (fun h4=>?_) (fun h4=>?_)
   ·refine Nz ?_
    exact (jy J h4 (fun j hj=>h2 j hj J)).symm
   ·refine Sz ?_
    refine az.mk (i+1) ?_ (fun j hj hl=>?_) J
    ·exact WK
    ·by_cases hj2:j < i
     ·exact h2 j hj2 hl
     ·rw[show j=i from J]; exact h4
  ·refine Nz ?_
   exact (fP fun j hj=>h2 j J hj).symm
theorem wH (F:FuncId) (A:Ty) (x:A.den) (p:(List DV)->Bool) (l:List (List DV)) (hF:∀y ∈ l,Fn prog F (⟨(.slice an),y⟩ :: kx A x) false [⟨.bool,p y⟩]):Fn prog 112 [⟨.slice (.slice an),l⟩,⟨.ext (.ie F) A,some x⟩] false [⟨.bool,l.any p⟩]:=by
 have c1:=Bo F A x p l hF
 refine fe func112 ntmps112 results112 fun hwf=>?_
 refine Bz c1 ?_
 exact lq
end DW

namespace DW
open Go.RowKit
def wE (r d:Int):Bool:=decide (0 < d) && decide (r < d * d)
def jF (s:ey):Int:=sn s.2.2.1 s.2.2.1.length
def BN (s:ey) (v:DV):Bool:=wE (jF s) (v.1 - s.1.1) && (wE (jF s) (s.2.1.1 - v.1) && (wE (jF s) (v.2 - s.1.2) && (wE (jF s) (s.2.1.2 - v.2) && !(s.2.2.2.1.any fun l=>zq l (ct v) (jF s)))))
def rI (s:ey):Nat->List Int
 | 0=>[]
 | i+1=>if BN s (nth (t:=an) s.2.2.2.2 i) then rI s i++[(i:Int)] else rI s i
def l7 (s:ey):List Int:=rI s s.2.2.2.2.length
theorem ub (s:ey):∀i,(rI s i).length<=i
 | 0=>by simp[rI]
 | i+1=>by
  have:=ub s i
  unfold rI
  split
  ·simp; omega
  ·omega
theorem ab9 {s:ey} (hs:bp s=true):0<=jF s/\jF s<=1000000:=by
 have h1:=(de hs).zN
 have h2:∀i,i<=s.2.2.1.length->0<=sn s.2.2.1 i/\sn s.2.2.1 i<=800:=by
  intro i
  induction i with
  | zero=>intro _; unfold sn; omega
  | succ i ih =>
   intro hi
   have h3:=ih J
   obtain⟨b1,b2,b3,b4⟩:=dc (h1.ins _ (aU (i:=i) J))
   have h4:=C1 (k:=20) b1 b2
   have h5:=C1 (k:=20) b3 b4
   have h6:=yU (nth (t:=an) s.2.2.1 i).1
   have h7:=yU (nth (t:=an) s.2.2.1 i).2
   unfold sn
   omega
 have:=h2 _ (le_refl _)
 unfold jF
 omega
def nf (s:ey) (v:DV):List Int:=[v.1 - s.1.1,s.2.1.1 - v.1,v.2 - s.1.2,s.2.1.2 - v.2]
def obT (s:ey) (v:DV):Bool:=s.2.2.2.1.any fun l=>zq l (ct v) (jF s)
theorem Zp (s:ey) (v:DV):BN s v=((nf s v).all (wE (jF s)) && !obT s v):=by
 unfold BN nf obT
 simp only[List.all_cons,List.all_nil,Bool.and_true,Bool.and_assoc]
theorem abv {s:ey} (hs:bp s=true) {v:DV} (hv:fJ 200 v=true):∀d ∈ nf s v,-400<=d/\d<=400:=by
 have h1:=dc (de hs).low
 have h2:=dc (de hs).high
 have h3:=dc hv
 unfold nf
 intro d hd
 simp only[mem_cons,not_mem_nil,or_false] at hd
 omega
theorem ZB {v:DV} (h:fJ 200 v=true):bm v=true:=by
 have:=dc h
 exact rm J J J J
theorem KI (l:List DV) (v:DV) (n:Int) (hl:bO l) (hn:0<=n/\n<=1000000):Fn prog 184 [⟨.slice an,l⟩,⟨.ext .ref an,some v⟩,⟨.ext .ref .int,some n⟩] false [⟨.bool,zq l (ct v) n⟩]:=by
 have c1:=lZ v
 have c2:=CD l (ct v) n hl hn
 refine fe func184 ntmps184 results184 fun hwf=>?_
 refine Cz c1 ?_
 refine cw c2 ?_
 all_goals exact Fz
theorem KX (s:ey) (v:DV) (hs:bp s=true) (hv:fJ 200 v=true):Fn prog 116 [⟨cY,s⟩,⟨an,v⟩] false [⟨.bool,BN s v⟩]:=by
 have c1:=gA s
 rw[hs] at c1
 have c2:=I7 v
 rw[ZB hv] at c2
 have hr:=ab9 hs
 have c3:=BY s.2.2.1 (de hs).zN.iX
 rw[show sn s.2.2.1 s.2.2.1.length=jF s from rfl] at c3
 have hd:=abv hs hv
 have h1:=dc (de hs).low
 have h2:=dc (de hs).high
 have h3:=dc hv
 have c4:=wH 184 (.prod (.ext .ref an) (.ext .ref .int)) (some v,some (jF s)) (fun l=>zq l (ct v) (jF s)) s.2.2.2.1 (fun y hy=>KI y v _ ((de hs).z7 y hy).iX hr)
 rw[Zp]
 unfold obT
 refine fe func116 ntmps116 results116 fun hwf=>?_
 refine Cz c1 ?_
 refine cw c2 ?_
 refine Cz c3 ?_
 refine aF.intro _ _ _ (fun i:Nat=>⟨[(2,.ptr 0 0),(3,.ptr 1 0),(5,.ptr 2 0),(43,.row 3 0),(44,.sc (.int .i64 4)),(45,.sc (.int .i64 i))],[(0,.box (js cY s)),(1,.box (js an v)),(2,.box [.sc (.int .i64 (jF s))]),(3,.row 3 .int 0 true (nf s v))]⟩) (fun i=>i<=4/\∀j,j < i->wE (jF s) (ni (nf s v) j)=true) (fun i=>4 - i) 0 ?_ ⟨zero_le _,fun j h=>absurd h (not_lt_zero _)⟩ ?_
 ·unfold nf
  exact WK
 ·rintro i ⟨hi,hall⟩
  have hlen:(nf s v).length=4:=rfl
  refine Nz ?_
  refine ao ?_ ?_<;>intro hA
  ·have hlt:i < (nf s v).length:=J
   have hb:=hd (ni (nf s v) i) (by rw[cd hlt]; exact getElem_mem hlt)
   have hm:=xF (x:=ni (nf s v) i) (y:=ni (nf s v) i) J J J J
   by_cases e1:ni (nf s v) i<=0
   ·have d1:=aj e1
    have e:(nf s v).all (wE (jF s))=false:=by
     rw[List.all_eq_false]
     refine⟨ni (nf s v) i,by rw[cd hlt]; exact getElem_mem hlt,?_⟩
     unfold wE
     rw[ak J,Bool.false_and]; decide
    rw[e,Bool.false_and]
    try simp (maxSteps:=9^9) only[go_sem,hlen]
    repeat refine AI ?_
    exact Gz d1
   ·have d1:=ak e1
    by_cases e2:ni (nf s v) i * ni (nf s v) i<=jF s
    ·have d2:=aj e2
     have e:(nf s v).all (wE (jF s))=false:=by
      rw[List.all_eq_false]
      refine⟨ni (nf s v) i,by rw[cd hlt]; exact getElem_mem hlt,?_⟩
      unfold wE
      rw[ak (p:=jF s < _) J,Bool.and_false]; decide
     rw[e,Bool.false_and]
     try simp (maxSteps:=9^9) only[go_sem,hlen]
     repeat refine AI ?_
     refine Tz d1 ?_
     exact Gz d2
    ·have d2:=ak e2
     try simp (maxSteps:=9^9) only[go_sem,hlen]
     repeat refine AI ?_
     refine Tz d1 ?_
     refine Tz d2 ?_
     refine az.mk (i+1) ?_ ⟨J,fun j hj=>?_⟩ J
     ·exact WK
     ·by_cases h:j < i
      ·exact hall j h
      ·rw[show j=i from J]
       unfold wE
       rw[aj J,aj J]; rfl
  ·have e:(nf s v).all (wE (jF s))=true:=by
    rw[all_eq_true]
    intro d hdm
    obtain⟨j,hj,rfl⟩:=getElem_of_mem hdm
    have:=hall j J
    rwa [cd hj] at this
   rw[e,Bool.true_and]
   refine Sz ?_
   refine jl.mk (c4) ?_
   all_goals exact Fz
theorem DI (s:ey) (hs:bp s=true):Fn prog 47 [⟨cY,s⟩] true [⟨aq,l7 s⟩]:=by
 have c1:=gA s
 rw[hs] at c1
 have hnt:=(de hs).D3
 refine fe func47 ntmps47 results47 fun hwf=>?_
 refine Cz c1 ?_
 refine aF.intro _ _ _ (fun i:Nat=>⟨[(1,.ptr 0 0),(3,.row 1 0),(11,.sl an s.2.2.2.2),(12,.sc (.int .i64 s.2.2.2.2.length)),(13,.sc (.int .i64 i))],[(0,.box (js cY s)),(1,.row 3 .int 0 true (rI s i))]⟩) (fun i=>i<=s.2.2.2.2.length) (fun i=>s.2.2.2.2.length - i) 0 ?_ (zero_le _) ?_
 ·exact WK
 ·rintro i hi
  have hol:=ub s i
  refine Nz ?_
  refine ao ?_ ?_<;>intro hA
  ·have hlt:i < s.2.2.2.2.length:=J
   have c2:=KX s (nth (t:=an) s.2.2.2.2 i) hs ((de hs).T8 _ (aU hlt))
   cases ht:BN s (nth (t:=an) s.2.2.2.2 i)<;>rw[ht] at c2
   ·refine Cz c2 ?_
    refine az.mk (i+1) ?_ J J
    rw[show rI s (i+1)=rI s i from if_neg (by rw[ht]; decide)]
    exact WK
   ·refine Cz c2 ?_
    refine az.mk (i+1) ?_ J J
    rw[show rI s (i+1)=rI s i++[(i:Int)] from if_pos ht]
    exact WK
  ·rw[show l7 s=rI s i by unfold l7; rw[show i=s.2.2.2.2.length from J]]
   all_goals exact Fz
end DW

namespace DW
open Go.RowKit
end DW

namespace DW
open Go.RowKit
def pq:Option Rat:=fZ (((1:Int):Rat) / ((2:Int):Rat))
theorem Vb:aY pq:=rh _
theorem BR (x:Option Rat) (hx:aY x):Fn prog 331 [⟨au,oD x⟩] true [⟨au,oD (eT x pq)⟩]:=by
 have c1:Fn prog 299 [⟨.int,1⟩,⟨.int,2⟩] true [⟨au,oD pq⟩]:=yb 1 2 ae ae
 have c2:=fA x pq hx Vb
 refine fe func331 ntmps331 results331 fun hwf=>?_
 refine Cz c1 ?_
 refine cw c2 ?_
 all_goals exact Fz
def Fi (x y:Option Rat):Option Rat:=eT (bX x y) pq
def IE:Option Rat:=fZ (((1:Int):Rat) / ((4:Int):Rat))
theorem YX:aY IE:=rh _
def WM (k:dZ):Option Rat:=eT (bX (bX (aw k.2.2.1) (aw k.2.2.2.1)) (bX (aw k.2.2.2.2.1) (aw k.2.2.2.2.2))) IE
def FL (x y:Option Rat):DP:=if (x.isSome && y.isSome)=true then (oD x,oD y) else M7
def It (k:dZ):DP:=FL (Fi (aw k.1) (aw k.2.1)) (WM k)
def nv (k:dZ):DP:=if um k=true then It k else M7
theorem Lf (k:dZ) (ok:∀r ∈ fD k,br r=true):Fn prog 325 [⟨bf,k⟩] false [⟨ax,It k⟩]:=by
 have c1:=er (aw k.2.2.1) (aw k.2.2.2.1) (aI _) (aI _)
 have c2:=er (aw k.2.2.2.2.1) (aw k.2.2.2.2.2) (aI _) (aI _)
 have c3:=er _ _ (fS (aw k.2.2.1) (aw k.2.2.2.1)) (fS (aw k.2.2.2.2.1) (aw k.2.2.2.2.2))
 have c4:=er (aw k.1) (aw k.2.1) (aI _) (aI _)
 have c5:=BR _ (fS (aw k.1) (aw k.2.1))
 have c6:Fn prog 299 [⟨.int,1⟩,⟨.int,4⟩] true [⟨au,oD IE⟩]:=yb 1 4 ae ae
 have c7:=fA _ _ (fS (bX (aw k.2.2.1) (aw k.2.2.2.1)) (bX (aw k.2.2.2.2.1) (aw k.2.2.2.2.2))) YX
 rw[bg (ok k.2.2.1 (by simp[fD])),bg (ok k.2.2.2.1 (by simp[fD]))] at c1
 rw[bg (ok k.2.2.2.2.1 (by simp[fD])),bg (ok k.2.2.2.2.2 (by simp[fD]))] at c2
 rw[bg (ok k.1 (by simp[fD])),bg (ok k.2.1 (by simp[fD]))] at c4
 unfold It WM Fi FL
 generalize bX (aw k.2.2.1) (aw k.2.2.2.1)=x1 at *
 generalize bX (aw k.2.2.2.2.1) (aw k.2.2.2.2.2)=x2 at *
 generalize bX x1 x2=x3 at *
 generalize bX (aw k.1) (aw k.2.1)=x4 at *
 generalize eT x4 pq=x5 at *
 generalize eT x3 IE=x6 at *
 obtain⟨k1,k2,k3,k4,k5,k6⟩:=k
 dsimp only at *
 cases h:x5.isSome && x6.isSome
 ·have c8:=C9 x5 x6 h
  rw[if_neg (fun h=>by cases h)]
  refine fe func325 ntmps325 results325 fun hwf=>?_
  refine Cz c1 ?_
  refine cw c2 ?_
  refine Cz c3 ?_
  refine cw c4 ?_
  refine Cz c5 ?_
  refine cw c6 ?_
  refine Cz c7 ?_
  refine cw c8 ?_
  all_goals exact Fz
 ·have c8:=zV x5 x6 h
  rw[if_pos rfl]
  refine fe func325 ntmps325 results325 fun hwf=>?_
  refine Cz c1 ?_
  refine cw c2 ?_
  refine Cz c3 ?_
  refine cw c4 ?_
  refine Cz c5 ?_
  refine cw c6 ?_
  refine Cz c7 ?_
  refine aO.s (c8) ?_
  all_goals exact Fz
theorem ab7 {k:dZ} (h:um k=true):∀r ∈ fD k,br r=true:=by
 unfold um at h
 rw[Bool.and_eq_true,Bool.and_eq_true,not_eq_true',any_eq_false] at h
 intro r hr
 simpa using h.1.1 r hr
theorem Lq (k:dZ):Fn prog 279 [⟨bf,k⟩] false [⟨ax,nv k⟩]:=by
 have c1:=ux k
 unfold nv
 cases h:um k
 ·rw[h] at c1
  rw[if_neg (fun h=>by cases h)]
  obtain⟨k1,k2,k3,k4,k5,k6⟩:=k
  refine fe func279 ntmps279 results279 fun hwf=>?_
  refine Sz ?_
  refine cw c1 ?_
  all_goals exact Fz
 ·have c2:=Lf k (ab7 h)
  rw[h] at c1
  rw[if_pos rfl]
  generalize It k=p at *
  obtain⟨k1,k2,k3,k4,k5,k6⟩:=k
  refine fe func279 ntmps279 results279 fun hwf=>?_
  refine Cz c1 ?_
  refine cw c2 ?_
  all_goals exact Fz
def wpV (w:fU):DP:=FL (aw w.1) (Fi (aw w.2.1) (aw w.2.2))
def Ga (w:fU):DP:=if tY w=true then wpV w else M7
theorem abw {w:fU} (h:tY w=true):∀r ∈ kA w,br r=true:=by
 unfold tY at h
 rw[Bool.and_eq_true,not_eq_true',any_eq_false] at h
 intro r hr
 simpa using h.1 r hr
theorem IS (w:fU):Fn prog 284 [⟨bz,w⟩] false [⟨ax,Ga w⟩]:=by
 have c1:=ue w
 unfold Ga
 cases h:tY w
 ·rw[h] at c1
  rw[if_neg (fun h=>by cases h)]
  obtain⟨k1,k2,k3⟩:=w
  refine fe func284 ntmps284 results284 fun hwf=>?_
  refine Sz ?_
  refine cw c1 ?_
  all_goals exact Fz
 ·have ok:=abw h
  rw[h] at c1
  rw[if_pos rfl]
  have c2:=oK (aw w.1) (aI _)
  have c3:=er (aw w.2.1) (aw w.2.2) (aI _) (aI _)
  have c4:=BR _ (fS (aw w.2.1) (aw w.2.2))
  have e1:=bg (ok w.1 (by simp[kA]))
  have c5:=fun h=>C9 (aw w.1) (eT (bX (aw w.2.1) (aw w.2.2)) pq) h
  have c6:=fun h=>zV (aw w.1) (eT (bX (aw w.2.1) (aw w.2.2)) pq) h
  rw[e1] at c2 c5 c6
  rw[bg (ok w.2.1 (by simp[kA])),bg (ok w.2.2 (by simp[kA]))] at c3
  unfold wpV Fi FL
  rw[e1]
  generalize bX (aw w.2.1) (aw w.2.2)=x1 at *
  generalize eT x1 pq=x2 at *
  cases hh:(aw w.1).isSome && x2.isSome
  ·have c7:=c5 hh
   rw[if_neg (fun h=>by cases h)]
   obtain⟨k1,k2,k3⟩:=w
   dsimp only at *
   refine fe func284 ntmps284 results284 fun hwf=>?_
   refine Cz c1 ?_
   refine cw c2 ?_
   refine Cz c3 ?_
   refine cw c4 ?_
   refine Sz ?_
   refine cw c7 ?_
   all_goals exact Fz
  ·have c7:=c6 hh
   rw[if_pos rfl]
   obtain⟨k1,k2,k3⟩:=w
   dsimp only at *
   refine fe func284 ntmps284 results284 fun hwf=>?_
   refine Cz c1 ?_
   refine cw c2 ?_
   refine Cz c3 ?_
   refine cw c4 ?_
   refine Sz ?_
   refine aO.s (c7) ?_
   all_goals exact Fz
def wj (W:List fU) (i:Int):DP:=if 0<=i/\i<=(W.length:Int) - 1 then Ga (nth (t:=bz) W i.toNat) else M7
theorem ru (x:bk) (i:Int) (hW:x.2.2.2.2.2.1.length<=1000000):Fn prog 211 [⟨aP,x⟩,⟨.int,i⟩] false [⟨ax,wj x.2.2.2.2.2.1 i⟩]:=by
 have c1:=dH i 0 ((x.2.2.2.2.2.1.length:Int) - 1)
 have c2:=IS (nth (t:=bz) x.2.2.2.2.2.1 i.toNat)
 unfold wj
 obtain⟨hd,o,⟨⟨b1,b2⟩,⟨b3,b4⟩⟩,a,C,W,D,T⟩:=x
 dsimp only at *
 by_cases g:0<=i/\i<=(W.length:Int) - 1
 ·rw[aj g] at c1
  rw[if_pos g]
  generalize Ga (nth (t:=bz) W i.toNat)=p at *
  refine fe func211 ntmps211 results211 fun hwf=>?_
  refine Cz c1 ?_
  refine cw c2 ?_
  all_goals exact Fz
 ·rw[ak g] at c1
  rw[if_neg g]
  refine fe func211 ntmps211 results211 fun hwf=>?_
  refine Sz ?_
  refine cw c1 ?_
  all_goals exact Fz
theorem Ad (x:bk) (i j:Int) (hC:x.2.2.2.2.1.length<=1000000):Fn prog 277 [⟨aP,x⟩,⟨.int,i⟩,⟨.int,j⟩] false [⟨.bool,decide (0<=i/\i<=(x.2.2.2.2.1.length:Int) - 1) && decide (0<=j/\j<=(x.2.2.2.2.1.length:Int) - 1)⟩]:=by
 have c1:=dH i 0 ((x.2.2.2.2.1.length:Int) - 1)
 have c2:=dH j 0 ((x.2.2.2.2.1.length:Int) - 1)
 obtain⟨hd,o,⟨⟨b1,b2⟩,⟨b3,b4⟩⟩,a,C,W,D,T⟩:=x
 dsimp only at *
 generalize decide (0<=i/\i<=(C.length:Int) - 1)=g at *
 generalize decide (0<=j/\j<=(C.length:Int) - 1)=h at *
 cases g
 ·refine fe func277 ntmps277 results277 fun hwf=>?_
  refine Sz ?_
  refine cw c1 ?_
  all_goals exact Fz
 ·refine fe func277 ntmps277 results277 fun hwf=>?_
  refine Cz c1 ?_
  refine cw c2 ?_
  all_goals exact Fz
theorem ZG (k:Int) (dh:List Int) (left:Int) (hk:0<=k/\k < (dh.length:Int)):Fn prog 323 [⟨.int,k⟩,⟨.ext .ref aq,some dh⟩,⟨.ext .ref .int,some left⟩] false [⟨.bool,!decide (ni dh k.toNat=left)⟩]:=by
 refine fe func323 ntmps323 results323 fun hwf=>?_
 all_goals exact Fz
def O0 (n:Nat) (D:List DV) (i j:Int):List Int:=if (0<=i/\i<=(n:Int) - 1)/\(0<=j/\j<=(n:Int) - 1) then k7 n D i.toNat j.toNat else []
theorem Vw {l:List Int} {p:Int->Bool} {j:Nat} (hj:j < l.length) (hp:p (ni l j)=true) (hm:∀i,i < j->p (ni l i)=false):l.find? p=some (ni l j):=by
 induction l generalizing j with
 | nil=>cases hj
 | cons a l ih =>
  cases j with
  | zero=>exact List.find?_cons_of_pos hp
  | succ j =>
   have h0:=hm 0 J
   rw[List.find?_cons_of_neg (by show ¬ p a=true; rw[show p a=false from h0]; decide)]
   exact ih (by simpa using hj) hp fun i hi=>hm (i+1) J
theorem Rr {l:List Int} {p:Int->Bool} (hm:∀i,i < l.length->p (ni l i)=false):l.find? p=none:=by
 rw[List.find?_eq_none]
 intro y hy
 obtain⟨j,hj,rfl⟩:=xf hy
 rw[hm j hj]; decide
theorem Ij (x:bk) (i j:Int) (hC:x.2.2.2.2.1.length<=1000000) (hD:x.2.2.2.2.2.2.1.length<=100000000):Fn prog 278 [⟨aP,x⟩,⟨.int,i⟩,⟨.int,j⟩] false [⟨aq,O0 x.2.2.2.2.1.length x.2.2.2.2.2.2.1 i j⟩]:=by
 have c1:=Ad x i j hC
 unfold O0
 by_cases g1:0<=i/\i<=(x.2.2.2.2.1.length:Int) - 1
 rotate_left
 ·rw[ak g1,Bool.false_and] at c1
  rw[if_neg (fun h=>g1 h.1)]
  obtain⟨hd,o,⟨⟨b1,b2⟩,⟨b3,b4⟩⟩,a,C,W,D,T⟩:=x
  refine fe func278 ntmps278 results278 fun hwf=>?_
  refine Sz ?_
  refine cw c1 ?_
  all_goals exact Fz
 by_cases g2:0<=j/\j<=(x.2.2.2.2.1.length:Int) - 1
 rotate_left
 ·rw[ak g2,Bool.and_false] at c1
  rw[if_neg (fun h=>g2 h.2)]
  obtain⟨hd,o,⟨⟨b1,b2⟩,⟨b3,b4⟩⟩,a,C,W,D,T⟩:=x
  refine fe func278 ntmps278 results278 fun hwf=>?_
  refine Sz ?_
  refine cw c1 ?_
  all_goals exact Fz
 rw[aj g1,aj g2,Bool.and_true] at c1
 rw[if_pos ⟨g1,g2⟩]
 obtain⟨p,rfl⟩:∃p:Nat,i=p:=⟨i.toNat,J⟩
 obtain⟨q,rfl⟩:∃q:Nat,j=q:=⟨j.toNat,J⟩
 rw[toNat_natCast,toNat_natCast]
 have hp:p < x.2.2.2.2.1.length:=J
 have hq:q < x.2.2.2.2.1.length:=J
 by_cases hpq:p=q
 ·have e:k7 x.2.2.2.2.1.length x.2.2.2.2.2.2.1 p q=[]:=if_pos hpq
  have e2:decide ((p:Int)=(q:Int))=true:=aj J
  rw[e]
  obtain⟨hd,o,⟨⟨b1,b2⟩,⟨b3,b4⟩⟩,a,C,W,D,T⟩:=x
  refine fe func278 ntmps278 results278 fun hwf=>?_
  refine Bz c1 ?_
  exact Gz e2
 have e2:decide ((p:Int)=(q:Int))=false:=ak J
 have c2:=PH x q hq hC hD
 have c3:=Cm x hD
 have c4:=fun (F:List Int) (w:Int) h=>vc x F w hC hD h
 have c5:=fun (F:List Int) (w:Int) h=>Bp x F w hC hD h
 have hz:∀(F:List Int) (w:Int),j4 x.2.2.2.2.1.length x.2.2.2.2.2.2.1 w=[]->da x.2.2.2.2.1.length x.2.2.2.2.2.2.1 F w=[]:=fun F w h=>by rw[KH,h]; rfl
 have hfl:=Yq (D:=x.2.2.2.2.2.2.1) hq
 have hfle:=SN (D:=x.2.2.2.2.2.2.1) hq hp
 have hfn:=ED (D:=x.2.2.2.2.2.2.1) hq hp
 have hcws:k7 x.2.2.2.2.1.length x.2.2.2.2.2.2.1 p q=(qe x.2.2.2.2.1.length x.2.2.2.2.2.2.1 (eG x.2.2.2.2.1.length x.2.2.2.2.2.2.1 q) p (ni (eG x.2.2.2.2.1.length x.2.2.2.2.2.2.1 q) p).toNat).1:=if_neg hpq
 have hCI:=fun t ht=>Cg (n:=x.2.2.2.2.1.length) (D:=x.2.2.2.2.2.2.1) hp hq t ht
 rw[hcws]
 have hst:∀t,qe x.2.2.2.2.1.length x.2.2.2.2.2.2.1 (eG x.2.2.2.2.1.length x.2.2.2.2.2.2.1 q) p (t+1)=E4 x.2.2.2.2.1.length x.2.2.2.2.2.2.1 (eG x.2.2.2.2.1.length x.2.2.2.2.2.2.1 q) (qe x.2.2.2.2.1.length x.2.2.2.2.2.2.1 (eG x.2.2.2.2.1.length x.2.2.2.2.2.2.1 q) p t) (ni (eG x.2.2.2.2.1.length x.2.2.2.2.2.2.1 q) p - 1 - (t:Int)):=fun t=>by rw[qe,toNat_natCast]
 have hs0:qe x.2.2.2.2.1.length x.2.2.2.2.2.2.1 (eG x.2.2.2.2.1.length x.2.2.2.2.2.2.1 q) p 0=([],[(p:Int)]):=rfl
 have hal:=fun F w=>yT (n:=x.2.2.2.2.1.length) (D:=x.2.2.2.2.2.2.1) F w
 have har:=fun F w k (h:k ∈ da x.2.2.2.2.1.length x.2.2.2.2.2.2.1 F w)=>uL h
 have hwl:=J6 (D:=x.2.2.2.2.2.2.1)
 have hfd:∀(dh:List Int) (s:List Int × List Int) (left:Int) (j:Nat),j < (dj x.2.2.2.2.2.2.1).length->0 < (nV x.2.2.2.2.1.length x.2.2.2.2.2.2.1 dh s.2 (ni (dj x.2.2.2.2.2.2.1) j) left).length->(∀i,i < j->(nV x.2.2.2.2.1.length x.2.2.2.2.2.2.1 dh s.2 (ni (dj x.2.2.2.2.2.2.1) i) left).length=0)->E4 x.2.2.2.2.1.length x.2.2.2.2.2.2.1 dh s left=(s.1++[ni (dj x.2.2.2.2.2.2.1) j],nV x.2.2.2.2.1.length x.2.2.2.2.2.2.1 dh s.2 (ni (dj x.2.2.2.2.2.2.1) j) left):=fun dh s left j h1 h2 h3=>by
  unfold E4
  rw[Vw (p:=fun w=>decide (0 < (nV x.2.2.2.2.1.length x.2.2.2.2.2.2.1 dh s.2 w left).length)) h1 (aj h2) fun i hi=>ak (by rw[h3 i hi]; omega)]
 have hfm:∀(dh:List Int) (s:List Int × List Int) (left:Int),(∀i,i < (dj x.2.2.2.2.2.2.1).length->(nV x.2.2.2.2.1.length x.2.2.2.2.2.2.1 dh s.2 (ni (dj x.2.2.2.2.2.2.1) i) left).length=0)->E4 x.2.2.2.2.1.length x.2.2.2.2.2.2.1 dh s left=s:=fun dh s left h3=>by
  unfold E4
  rw[Rr (p:=fun w=>decide (0 < (nV x.2.2.2.2.1.length x.2.2.2.2.2.2.1 dh s.2 w left).length)) fun i hi=>ak (by rw[h3 i hi]; omega)]
 have hnx:∀(dh cur:List Int) (w left:Int),nV x.2.2.2.2.1.length x.2.2.2.2.2.2.1 dh cur w left=(da x.2.2.2.2.1.length x.2.2.2.2.2.2.1 cur w).filter fun k=>!(!decide (ni dh k.toNat=left)):=fun _ _ _ _=>rfl
 obtain⟨hd,o,⟨⟨b1,b2⟩,⟨b3,b4⟩⟩,a,C,W,D,T⟩:=x
 dsimp only at *
 generalize eG C.length D q=dh at *
 generalize hd0:ni dh p=d at *
 have hdd:-1<=d/\d<=1000000:=J
 generalize dj D=wls at *
 have hcc:∀t:Nat,(t:Int)<=d->(qe C.length D dh p t).1.length=t:=fun t ht=>(hCI t ht).len
 generalize hcs:qe C.length D dh p=cs at *
 refine fe func278 ntmps278 results278 fun hwf=>?_
 refine Bz c1 ?_
 refine Tz e2 ?_
 refine cw c2 ?_
 refine Cz c3 ?_
 refine Uz hd0 ?_
 refine aF.intro _ _ _ (fun t:Nat=>⟨[(3,.ptr 0 0),(7,.ptr 1 0),(8,.row 2 0),(9,.sl .int wls),(10,.sl .int (cs t).2),(11,.ptr 3 0)],[(0,.box (xS (hd,o,((b1,b2),(b3,b4)),a,C,W,D,T))),(1,.box [.sl .int dh]),(2,.row 3 .int 0 true (cs t).1),(3,.box [.sc (.int .i64 (d - 1 - (t:Int)))])]⟩) (fun t=>t<=d.toNat) (fun t=>d.toNat - t) 0 ?_ (zero_le _) ?_
 ·rw[hs0]
  exact WZz [(3,4)]
 ·rintro t ht
  have hs1:=hst t
  have hct:=hcc t
  refine Nz ?_
  refine ao ?_ ?_<;>intro hA
  ·have hct:=hct J
   have hsl:((d - 1 - (t:Int)):Int)=d - 1 - (t:Int):=rfl
   generalize hst2:cs t=s at *
   generalize hlf:d - 1 - (t:Int)=left at *
   have hfd2:=hfd dh s left
   have hfm2:=hfm dh s left
   have hfx:=fun (w:Int)=>pR 323 (.prod (.ext .ref aq) (.ext .ref .int)) (some dh,some left) (fun k=>!decide (ni dh k.toNat=left)) (da C.length D s.2 w) (fun k hk=>ZG k dh left (by have:=har s.2 w k hk; omega)) (by have:=hal s.2 w; omega)
   have hfe:=L8 (BC 323 (.prod (.ext .ref aq) (.ext .ref .int)) (some dh,some left))
   refine Nz ?_
   refine aF.intro _ _ _ (fun j:Nat=>⟨[(3,.ptr 0 0),(7,.ptr 1 0),(8,.row 2 0),(9,.sl .int wls),(10,.sl .int s.2),(11,.ptr 3 0),(42,.sl .int wls),(43,.sc (.int .i64 wls.length)),(44,.sc (.int .i64 j))],[(0,.box (xS (hd,o,((b1,b2),(b3,b4)),a,C,W,D,T))),(1,.box [.sl .int dh]),(2,.row 3 .int 0 true s.1),(3,.box [.sc (.int .i64 left)])]⟩) (fun j=>j<=wls.length/\∀i,i < j->(nV C.length D dh s.2 (ni wls i) left).length=0) (fun j=>wls.length - j) 0 ?_ ⟨zero_le _,fun i hi=>absurd hi (not_lt_zero _)⟩ ?_
   ·exact WK
   ·rintro j ⟨hj,hm⟩
    refine Nz ?_
    refine ao ?_ ?_<;>intro hB
    ·have hjw:j < wls.length:=J
     have hfd3:=fun h=>hfd2 j hjw h hm
     have hnxe:=hnx dh s.2 (ni wls j) left
     have hmn:(nV C.length D dh s.2 (ni wls j) left).length=0->∀i,i < j+1->(nV C.length D dh s.2 (ni wls i) left).length=0:=fun h0 i hi=>by
      by_cases h:i < j
      ·exact hm i h
      ·rw[show i=j from J]; exact h0
     by_cases hcon:j4 C.length D (ni wls j)=[]
     ·have c6:=c5 s.2 (ni wls j) hcon
      have hz2:=hz s.2 (ni wls j) hcon
      have hm2:=hmn (by rw[hnxe,hz2]; rfl)
      refine Cz c6 ?_
      refine jl.ow (hfe) ?_
      refine Nz ?_
      have z0:decide ((0:Int) < ((0:Nat):Int))=false:=ae
      refine Tz z0 ?_
      refine az.mk (j+1) ?_ ⟨J,hm2⟩ J
      exact WK
     ·have c6:=c4 s.2 (ni wls j) (by
       cases h:j4 C.length D (ni wls j) with
       | nil=>exact absurd h hcon
       | cons a l=>exact Nat.succ_pos _)
      have c7:=hfx (ni wls j)
      rw[<-hnxe] at c7
      generalize da C.length D s.2 (ni wls j)=ac at *
      generalize nV C.length D dh s.2 (ni wls j) left=nx at *
      refine Sz ?_
      refine aO.g (c6) ?_
      refine Sz ?_
      refine jl.r (oo:=true) (c7) ?_
      refine Sz ?_
      refine ao (fun hE=>?_) (fun hE=>?_)
      ·have hfd4:=hfd3 J
       refine Sz ?_
       refine az.mk (t+1) ?_ J J
       rw[hs1,hfd4]
       exact WZz [(3,6)]
      ·have hm2:=hmn J
       refine Sz ?_
       refine az.mk (j+1) ?_ ⟨J,hm2⟩ J
       exact WK
    ·obtain rfl:j=wls.length:=J
     have hfm3:=hfm2 hm
     refine Sz ?_
     refine az.mk (t+1) ?_ J J
     rw[hs1,hfm3]
     exact WZz [(3,4)]
  ·obtain rfl:t=d.toNat:=J
   try simp (maxSteps:=9^9) only[go_sem]
theorem aa8 (x:bk) (k:Int) (ws:List Int) (i:Nat) (to:Int) (hi:i < ws.length) (hw:ws.length<=1000000) (hC:x.2.2.2.2.1.length<=1000000) (hD:x.2.2.2.2.2.2.1.length<=100000000):Fn prog 282 [⟨.int,k⟩,⟨.ext .ref aP,some x⟩,⟨.ext .ref aq,some ws⟩,⟨.ext .ref .int,some (i:Int)⟩,⟨.ext .ref .int,some to⟩] false [⟨.bool,!qd x.2.2.2.2.1.length x.2.2.2.2.2.2.1 k (ws.drop (i+1)) to⟩]:=by
 have c1:=Uj x k (ws.drop (i+1)) to hC hD
 have e:((i:Int)+1).toNat=i+1:=J
 generalize qd x.2.2.2.2.1.length x.2.2.2.2.2.2.1 k (ws.drop (i+1)) to=g at *
 refine fe func282 ntmps282 results282 fun hwf=>?_
 try simp (maxSteps:=9^9) only[go_sem,e,take_length]
 repeat refine AI ?_
 repeat refine AI ?_
 refine cw c1 ?_
 all_goals exact Fz
def wg (C:List dZ) (W:List fU) (n:Nat) (D:List DV) (ws:List Int) (to frm:Int):Nat->List DP
 | 0=>[nv (nth (t:=bf) C frm.toNat)]
 | i+1=>wg C W n D ws to frm i++[wj W (ni ws i),nv (nth (t:=bf) C (oe n D ws to frm (i+1)).toNat)]
theorem D9 {C:List dZ} {W:List fU} {n:Nat} {D:List DV} {ws:List Int} {to frm:Int}:∀i,(wg C W n D ws to frm i).length=2 * i+1
 | 0=>rfl
 | i+1=>by rw[wg,length_append,D9 i]; simp; omega
def sf (x:bk) (i j:Int):List DP :=
 if (0<=i/\i<=(x.2.2.2.2.1.length:Int) - 1)/\(0<=j/\j<=(x.2.2.2.2.1.length:Int) - 1) then
  if k7 x.2.2.2.2.1.length x.2.2.2.2.2.2.1 i.toNat j.toNat=[]/\i ≠ j then [] else wg x.2.2.2.2.1 x.2.2.2.2.2.1 x.2.2.2.2.1.length x.2.2.2.2.2.2.1 (k7 x.2.2.2.2.1.length x.2.2.2.2.2.2.1 i.toNat j.toNat) j i (k7 x.2.2.2.2.1.length x.2.2.2.2.2.2.1 i.toNat j.toNat).length
 else []
theorem Lh (x:bk) (i j:Int) (hC:x.2.2.2.2.1.length<=1000000) (hW:x.2.2.2.2.2.1.length<=1000000) (hD:x.2.2.2.2.2.2.1.length<=100000000):Fn prog 210 [⟨aP,x⟩,⟨.int,i⟩,⟨.int,j⟩] false [⟨.slice ax,sf x i j⟩]:=by
 have c1:=Ad x i j hC
 unfold sf
 by_cases g1:0<=i/\i<=(x.2.2.2.2.1.length:Int) - 1
 rotate_left
 ·rw[ak g1,Bool.false_and] at c1
  rw[if_neg (fun h=>g1 h.1)]
  obtain⟨hd,o,⟨⟨b1,b2⟩,⟨b3,b4⟩⟩,a,C,W,D,T⟩:=x
  refine fe func210 ntmps210 results210 fun hwf=>?_
  refine Sz ?_
  refine cw c1 ?_
  all_goals exact Fz
 by_cases g2:0<=j/\j<=(x.2.2.2.2.1.length:Int) - 1
 rotate_left
 ·rw[ak g2,Bool.and_false] at c1
  rw[if_neg (fun h=>g2 h.2)]
  obtain⟨hd,o,⟨⟨b1,b2⟩,⟨b3,b4⟩⟩,a,C,W,D,T⟩:=x
  refine fe func210 ntmps210 results210 fun hwf=>?_
  refine Sz ?_
  refine cw c1 ?_
  all_goals exact Fz
 rw[aj g1,aj g2,Bool.and_true] at c1
 rw[if_pos ⟨g1,g2⟩]
 obtain⟨p,rfl⟩:∃p:Nat,i=p:=⟨i.toNat,J⟩
 obtain⟨q,rfl⟩:∃q:Nat,j=q:=⟨j.toNat,J⟩
 rw[toNat_natCast,toNat_natCast]
 have hp:p < x.2.2.2.2.1.length:=J
 have hq:q < x.2.2.2.2.1.length:=J
 have c2:=Ij x p q hC hD
 have ecs:O0 x.2.2.2.2.1.length x.2.2.2.2.2.2.1 p q=k7 x.2.2.2.2.1.length x.2.2.2.2.2.2.1 p q:=by unfold O0; rw[if_pos ⟨g1,g2⟩,toNat_natCast,toNat_natCast]
 rw[ecs] at c2
 have hwl:=NU (D:=x.2.2.2.2.2.2.1) hp hq
 have hld:=E3 (D:=x.2.2.2.2.2.2.1) hp hq
 have hself:p=q->k7 x.2.2.2.2.1.length x.2.2.2.2.2.2.1 p q=[]:=fun h=>if_pos h
 generalize k7 x.2.2.2.2.1.length x.2.2.2.2.2.2.1 p q=ws at *
 by_cases g3:ws=[]/\(p:Int) ≠ (q:Int)
 ·rw[if_pos g3]
  obtain⟨rfl,g4⟩:=g3
  have e2:decide ((p:Int)=(q:Int))=false:=ak g4
  obtain⟨hd,o,⟨⟨b1,b2⟩,⟨b3,b4⟩⟩,a,C,W,D,T⟩:=x
  refine fe func210 ntmps210 results210 fun hwf=>?_
  refine Cz c1 ?_
  refine cw c2 ?_
  refine Nz ?_
  have z0:decide (((0:Nat):Int)=0)=true:=ae
  exact CW z0 e2
 rw[if_neg g3]
 have hld:=hld (by
  by_cases e:ws=[]
  ·exact .inr (Classical.byContradiction fun h=>g3 ⟨e,J⟩)
  ·exact .inl e)
 have cG:=fun (F:List Int) (w:Int) h=>vc x F w hC hD h
 have cL:=fun (k:Int) (i:Nat) (hi:i < ws.length)=>aa8 x k ws i q hi J hC hD
 have cN:=fun i (hi:i < ws.length)=>MH hld hi
 have cR:=QZ hld ⟨J,J⟩
 have cW:=fun i=>ru x i hW
 have cC:=fun k=>Lq k
 have hnwe:∀(frm wall:Int) (w2:List Int),FT x.2.2.2.2.1.length x.2.2.2.2.2.2.1 frm wall w2 (q:Int)=(da x.2.2.2.2.1.length x.2.2.2.2.2.2.1 [frm] wall).filter fun k=>!(!qd x.2.2.2.2.1.length x.2.2.2.2.2.2.1 k w2 q):=fun _ _ _=>rfl
 have hal:=fun F w=>yT (n:=x.2.2.2.2.1.length) (D:=x.2.2.2.2.2.2.1) F w
 have hcon:∀(F:List Int) (w:Int),0 < (da x.2.2.2.2.1.length x.2.2.2.2.2.2.1 F w).length->0 < (j4 x.2.2.2.2.1.length x.2.2.2.2.2.2.1 w).length:=fun F w h=>by
  obtain⟨k,hk⟩:=List.exists_mem_of_length_pos h
  exact length_pos_of_mem (nh.1 hk).1
 have hfl:∀(l:List Int) (p:Int->Bool),(l.filter p).length<=l.length:=fun l p=>List.length_filter_le _ _
 have hpo0:wg x.2.2.2.2.1 x.2.2.2.2.2.1 x.2.2.2.2.1.length x.2.2.2.2.2.2.1 ws q p 0=[nv (nth (t:=bf) x.2.2.2.2.1 p)]:=rfl
 have hpos:∀i,wg x.2.2.2.2.1 x.2.2.2.2.2.1 x.2.2.2.2.1.length x.2.2.2.2.2.2.1 ws q p (i+1)=wg x.2.2.2.2.1 x.2.2.2.2.2.1 x.2.2.2.2.1.length x.2.2.2.2.2.2.1 ws q p i++[wj x.2.2.2.2.2.1 (ni ws i),nv (nth (t:=bf) x.2.2.2.2.1 (oe x.2.2.2.2.1.length x.2.2.2.2.2.2.1 ws q p (i+1)).toNat)]:=fun _=>rfl
 have hpol:=fun i=>D9 (C:=x.2.2.2.2.1) (W:=x.2.2.2.2.2.1) (n:=x.2.2.2.2.1.length) (D:=x.2.2.2.2.2.2.1) (ws:=ws) (to:=(q:Int)) (frm:=(p:Int)) i
 have hcps:∀i,oe x.2.2.2.2.1.length x.2.2.2.2.2.2.1 ws q p (i+1)=ni (FT x.2.2.2.2.1.length x.2.2.2.2.2.2.1 (oe x.2.2.2.2.1.length x.2.2.2.2.2.2.1 ws q p i) (ni ws i) (ws.drop (i+1)) q) 0:=fun _=>rfl
 have hcp0:oe x.2.2.2.2.1.length x.2.2.2.2.2.2.1 ws q p 0=(p:Int):=rfl
 have hDl:=hD
 have g5:ws.length=0->decide ((p:Int)=(q:Int))=true:=fun h=>aj (Classical.byContradiction fun hne=>g3 ⟨List.eq_nil_of_length_eq_zero h,hne⟩)
 obtain⟨hd,o,⟨⟨b1,b2⟩,⟨b3,b4⟩⟩,a,C,W,D,T⟩:=x
 dsimp only at *
 generalize hF:oe C.length D ws q p=cf at *
 generalize hO:wg C W C.length D ws q p=po at *
 by_cases h0:ws.length=0
 ·have e2:=g5 h0
  have cC0:=cC (nth (t:=bf) C p)
  obtain rfl:ws=[]:=List.eq_nil_of_length_eq_zero h0
  have z0:decide (((0:Nat):Int)=0)=true:=ae
  have z1:decide ((0:Int) < ((0:Nat):Int))=false:=ae
  have hp00:po ([]:List Int).length=[nv (nth (t:=bf) C p)]:=hpo0
  rw[hp00]
  refine fe func210 ntmps210 results210 fun hwf=>?_
  refine Cz c1 ?_
  refine cw c2 ?_
  refine Nz ?_
  refine fy z0 e2 ?_
  refine cw cC0 ?_
  refine Sz ?_
  refine aF.intro _ _ _ (fun _:Unit=>⟨[(8,.row 3 0),(37,.sc (.int .i64 ((0:Nat):Int))),(38,.sc (.int .i64 0))],[(3,.row 42 ax 0 false [nv (nth (t:=bf) C p)])]⟩) (fun _=>True) (fun _=>0) () ?_ trivial ?_
  ·exact WK
  ·rintro _ _
   try simp (maxSteps:=9^9) only[go_sem,z1]
 ·have e3:decide ((ws.length:Int)=0)=false:=ak J
  have cC0:=cC (nth (t:=bf) C p)
  refine fe func210 ntmps210 results210 fun hwf=>?_
  refine Cz c1 ?_
  refine cw c2 ?_
  refine Nz ?_
  refine Tz e3 ?_
  refine cw cC0 ?_
  refine Sz ?_
  refine aF.intro _ _ _ (fun i:Nat=>⟨[(1,.sc (.int .i64 (cf i))),(3,.ptr 0 0),(5,.ptr 1 0),(7,.ptr 2 0),(8,.row 3 0),(36,.sl .int ws),(37,.sc (.int .i64 ws.length)),(38,.sc (.int .i64 i))],[(0,.box (xS (hd,o,((b1,b2),(b3,b4)),a,C,W,D,T))),(1,.box [.sc (.int .i64 (q:Int))]),(2,.box [.sl .int ws]),(3,.row 42 ax 0 false (po i))]⟩) (fun i=>i<=ws.length) (fun i=>ws.length - i) 0 ?_ (zero_le _) ?_
  ·rw[hpo0,hcp0]
   exact WK
  ·rintro i hi
   have hpl:=hpol i
   refine Nz ?_
   refine ao ?_ ?_<;>intro hA
   ·have hit:i < ws.length:=J
    have hnp:=cN i hit
    have hnq:=hnwe (cf i) (ni ws i) (ws.drop (i+1))
    have hfp:=hfl (da C.length D [cf i] (ni ws i)) (fun k=>!(!qd C.length D k (ws.drop (i+1)) q))
    rw[<-hnq] at hfp
    have haw:=hal [cf i] (ni ws i)
    have c3:=cG [cf i] (ni ws i) (hcon [cf i] (ni ws i) J)
    have c4:=pR 282 (.prod (.ext .ref aP) (.prod (.ext .ref aq) (.prod (.ext .ref .int) (.ext .ref .int)))) (some (hd,o,((b1,b2),(b3,b4)),a,C,W,D,T),some ws,some (i:Int),some (q:Int)) (fun k=>!qd C.length D k (ws.drop (i+1)) q) (da C.length D [cf i] (ni ws i)) (fun k _=>cL k i hit) J
    rw[<-hnq] at c4
    have hcs:=hcps i
    have hpi:=hpos i
    have c5:=cW (ni ws i)
    have hrg:=cR (i+1) J
    have c6:=cC (nth (t:=bf) C (cf (i+1)).toNat)
    generalize FT C.length D (cf i) (ni ws i) (ws.drop (i+1)) q=nx at *
    generalize da C.length D [cf i] (ni ws i)=ac at *
    rw[hcs] at c6 hrg hpi
    generalize hn0:ni nx 0=y at *
    generalize nv (nth (t:=bf) C y.toNat)=pc at *
    generalize wj W (ni ws i)=pw at *
    refine Sz ?_
    refine aO.g (c3) ?_
    refine Sz ?_
    refine jl.r (oo:=true) (c4) ?_
    refine Sz ?_
    refine Tz hn0 ?_
    refine cw c5 ?_
    refine Cz c6 ?_
    refine az.mk (i+1) ?_ J J
    rw[hcs,hpi]
    exact WK
   ·obtain rfl:i=ws.length:=J
    try simp (maxSteps:=9^9) only[go_sem]
theorem DG (x:bk) (i j:Int):(sf x i j).length<=2 * x.2.2.2.2.1.length+1:=by
 unfold sf
 split
 ·rename_i h
  split
  ·exact zero_le _
  ·rw[D9]
   have:=NU (D:=x.2.2.2.2.2.2.1) (n:=x.2.2.2.2.1.length) (frm:=i.toNat) (to:=j.toNat) J J
   omega
 ·exact zero_le _
def xq (x:bk) (i:Int):List DP:=if 0<=i then [wj x.2.2.2.2.2.1 i] else []
def Aw (x:bk) (p q:DP):List DP:=(p :: xq x (gq x p).2)++sf x (gq x p).1 (gq x q).1++xq x (gq x q).2++[q]
def lM (x:bk) (p q:DP):Bool:=!decide (sf x (gq x p).1 (gq x q).1=[])
def eL (x:bk) (p q:DP):List DP:=if lM x p q=true then Aw x p q else []
theorem xT (x:bk) (p q:DP) (hp:bj p=true) (hq:bj q=true) (hC:x.2.2.2.2.1.length<=1000000) (hW:x.2.2.2.2.2.1.length<=1000000) (hD:x.2.2.2.2.2.2.1.length<=100000000):Fn prog 137 [⟨aP,x⟩,⟨ax,p⟩,⟨ax,q⟩] false [⟨.slice ax,eL x p q⟩,⟨.bool,lM x p q⟩]:=by
 have c1:=yl x p hp
 have c2:=yl x q hq
 have c3:=Lh x (gq x p).1 (gq x q).1 hC hW hD
 have c4:=ru x (gq x p).2 hW
 have c5:=ru x (gq x q).2 hW
 have c6:=zX p hp
 have c7:=zX q hq
 have hl:=DG x (gq x p).1 (gq x q).1
 unfold eL lM Aw xq
 generalize sf x (gq x p).1 (gq x q).1=w at *
 generalize hw1:wj x.2.2.2.2.2.1 (gq x p).2=y at *
 generalize hw2:wj x.2.2.2.2.2.1 (gq x q).2=z at *
 obtain⟨hd,o,⟨⟨b1,b2⟩,⟨b3,b4⟩⟩,a,C,W,D,T⟩:=x
 dsimp only at *
 generalize gq (hd,o,((b1,b2),(b3,b4)),a,C,W,D,T) p=k at *
 generalize gq (hd,o,((b1,b2),(b3,b4)),a,C,W,D,T) q=j at *
 obtain⟨k1,k2⟩:=k
 obtain⟨j1,j2⟩:=j
 dsimp only at *
 by_cases h0:w=[]
 ·rw[if_neg (by rw[aj h0]; decide),aj h0]
  subst h0
  have z0:decide (((0:Nat):Int)=0)=true:=ae
  refine fe func137 ntmps137 results137 fun hwf=>?_
  refine Cz c1 ?_
  refine cw c2 ?_
  refine Bz c3 ?_
  exact Gz z0
 ·have hwl:0 < w.length:=List.length_pos_iff.2 h0
  rw[if_pos (by rw[ak h0]; decide),ak h0]
  have z0:decide ((w.length:Int)=0)=false:=ak J
  by_cases g1:0<=k2
  ·have y1:decide (0<=k2)=true:=aj g1
   rw[if_pos g1]
   by_cases g2:0<=j2
   ·have y2:decide (0<=j2)=true:=aj g2
    rw[if_pos g2]
    refine fe func137 ntmps137 results137 fun hwf=>?_
    refine Cz c1 ?_
    refine cw c2 ?_
    refine Bz c3 ?_
    refine Tz z0 ?_
    refine cw c6 ?_
    refine Nz ?_
    refine Tz y1 ?_
    refine cw c4 ?_
    refine Sz ?_
    refine Tz y2 ?_
    refine cw c5 ?_
    refine Sz ?_
    refine cw c7 ?_
    all_goals exact Fz
   ·have y2:decide (0<=j2)=false:=ak g2
    rw[if_neg g2,append_nil]
    refine fe func137 ntmps137 results137 fun hwf=>?_
    refine Cz c1 ?_
    refine cw c2 ?_
    refine Bz c3 ?_
    refine Tz z0 ?_
    refine cw c6 ?_
    refine Nz ?_
    refine Tz y1 ?_
    refine cw c4 ?_
    refine Sz ?_
    refine Tz y2 ?_
    refine cw c7 ?_
    all_goals exact Fz
  ·have y1:decide (0<=k2)=false:=ak g1
   rw[if_neg g1]
   by_cases g2:0<=j2
   ·have y2:decide (0<=j2)=true:=aj g2
    rw[if_pos g2]
    refine fe func137 ntmps137 results137 fun hwf=>?_
    refine Cz c1 ?_
    refine cw c2 ?_
    refine Bz c3 ?_
    refine Tz z0 ?_
    refine cw c6 ?_
    refine Nz ?_
    refine Tz y1 ?_
    refine Tz y2 ?_
    refine cw c5 ?_
    refine Sz ?_
    refine cw c7 ?_
    all_goals exact Fz
   ·have y2:decide (0<=j2)=false:=ak g2
    rw[if_neg g2,append_nil]
    refine fe func137 ntmps137 results137 fun hwf=>?_
    refine Cz c1 ?_
    refine cw c2 ?_
    refine Bz c3 ?_
    refine Tz z0 ?_
    refine cw c6 ?_
    refine Nz ?_
    refine Tz y1 ?_
    refine Tz y2 ?_
    refine cw c7 ?_
    all_goals exact Fz
def M4:Int:=HN * 4
theorem GH:Mo M4:=by
 have h1:=dC
 have h2:=iD
 unfold Mo M4 HN
 exact⟨J,J⟩
def gM (q:Rat):Prop:=fq M4 (20000 * M4) q
def gp (p:DP):Prop:=∃x y,p=(oD (some x),oD (some y))/\gM x/\gM y
theorem Ki {q:Rat} (h:gM q):small q:=by
 have h1:=dC
 have h2:=iD
 exact cK h (by unfold M4 HN; omega) (by unfold M4 HN; omega) (by unfold M4 HN; omega)
theorem WS {q:Rat} (h:gM q):∃z:Int,(-(20000 * M4)<=z/\z<=20000 * M4)/\q=mq M4 z:=by
 obtain⟨a,h1,h2⟩:=h
 exact⟨a,h1,Wd GH.1 h2⟩
theorem aaG {p:DP} (h:gp p):∃v,tz M4 v/\p=mp M4 v:=by
 obtain⟨x,y,rfl,hx,hy⟩:=h
 obtain⟨a,a1,rfl⟩:=WS hx
 obtain⟨b,b1,rfl⟩:=WS hy
 exact⟨(a,b),⟨a1,b1⟩,rfl⟩
theorem BK {p:DP} (h:gp p):bj p=true:=by
 obtain⟨x,y,rfl,hx,hy⟩:=h
 exact uE (AX (Ki hx)) (AX (Ki hy))
theorem XI {l:List DP} (h:∀p ∈ l,gp p):∃vs,Fp M4 vs/\l=vs.map (mp M4):=by
 induction l with
 | nil=>exact⟨[],(fun v hv=>by cases hv),rfl⟩
 | cons p l ih =>
  obtain⟨vs,h1,h2⟩:=ih fun q hq=>h q (List.mem_cons_of_mem _ hq)
  obtain⟨v,v1,v2⟩:=aaG (h p mem_cons_self)
  refine⟨v :: vs,fun u hu=>?_,by rw[v2,h2]; rfl⟩
  rcases mem_cons.1 hu with rfl|hu
  ·exact v1
  ·exact h1 u hu
theorem IF:fq 2 1 ((1:Int) / (2:Int):Rat):=⟨1,ae,by rw[show ((1:Int):Rat)=1 from rfl,show ((2:Int):Rat)=2 from rfl]; grind⟩
theorem Wb:fq 4 1 ((1:Int) / (4:Int):Rat):=⟨1,ae,by rw[show ((1:Int):Rat)=1 from rfl,show ((4:Int):Rat)=4 from rfl]; grind⟩
theorem Me:pq=some ((1:Int) / (2:Int):Rat):=dO (cK IF ae (by have:=iD; have:=dC; omega) (by have:=iD; have:=dC; omega))
theorem aaI:IE=some ((1:Int) / (4:Int):Rat):=dO (cK Wb ae (by have:=iD; have:=dC; omega) (by have:=iD; have:=dC; omega))
theorem aa7 {q:Rat} (h:gX q):gM q:=by
 have h1:=dC
 have a:=qG h (k:=27720 * 4) ae
 rw[show LC * (27720 * 4)=M4 by unfold M4 HN; omega] at a
 exact lu a (by unfold M4 HN; omega)
theorem adj {p q:Rat} (hp:gX p) (hq:gX q):∃r,Fi (some p) (some q)=some r/\gM r/\r=(p+q) * ((1:Int) / (2:Int):Rat):=by
 have h1:=dC
 have h2:=iD
 have a:=pQ hp hq
 have b:=Bx a IF
 refine⟨_,?_,?_,rfl⟩
 ·unfold Fi
  rw[Me,show bX (some p) (some q)=some (p+q) from dO (cK a h1 J J)]
  exact dO (cK b J J J)
 ·have c:=qG b (k:=27720 * 2) ae
  rw[show LC * 2 * (27720 * 2)=M4 by unfold M4 HN; omega] at c
  exact lu c (by unfold M4 HN; omega)
theorem ac9 {p q:Rat} (hp:gY p) (hq:gY q):∃r,Fi (some p) (some q)=some r/\gM r/\r=(p+q) * ((1:Int) / (2:Int):Rat):=by
 have h1:=dC
 have h2:=iD
 have a:=pQ hp hq
 have b:=Bx a IF
 refine⟨_,?_,?_,rfl⟩
 ·unfold Fi
  rw[Me,show bX (some p) (some q)=some (p+q) from dO (cK a (by unfold HN; omega) (by unfold HN; omega) (by unfold HN; omega))]
  exact dO (cK b (by unfold HN; omega) (by unfold HN; omega) (by unfold HN; omega))
 ·have c:=qG b (k:=2) ae
  rw[show HN * 2 * 2=M4 by unfold M4; omega] at c
  exact lu c (by unfold M4 HN; omega)
section
variable {b:DV × DV} {a:List (List DV)} {k:Nat}
theorem Zx (h:dV b a k) {u v u' v':Rat} (h1:Bd b a k u v) (h2:Bd b a k u' v') (h3:u+v < u'+v'):∃x y,nv (oD (some (bn b a k)),oD (some (bn b a (k+1))),oD (some u),oD (some v),oD (some u'),oD (some v'))=(oD (some x),oD (some y))/\gM x/\gM y/\x=(bn b a k+bn b a (k+1)) * ((1:Int) / (2:Int):Rat)/\y=(u+v+(u'+v')) * ((1:Int) / (4:Int):Rat):=by
 have l1:=dC
 have l2:=iD
 obtain⟨x1,x2⟩:=h.x
 obtain⟨y1,y2⟩:=h.y h1
 obtain⟨y3,y4⟩:=h.y h2
 obtain⟨m1,m2⟩:=h.bd h1 h2 h3
 have hlt:=h.lt
 have rx1:aw (oD (some (bn b a k)))=some (bn b a k):=dT (Bb x1)
 have rx2:aw (oD (some (bn b a (k+1))))=some (bn b a (k+1)):=dT (Bb x2)
 have ry1:aw (oD (some u))=some u:=dT (kO y1)
 have ry2:aw (oD (some v))=some v:=dT (kO y2)
 have ry3:aw (oD (some u'))=some u':=dT (kO y3)
 have ry4:aw (oD (some v'))=some v':=dT (kO y4)
 obtain⟨mx,e1,g1,k1⟩:=adj x1 x2
 have s1:=pQ y1 y2
 have s2:=pQ y3 y4
 have s3:=pQ s1 s2
 have s4:=Bx s3 Wb
 have e2:WM (oD (some (bn b a k)),oD (some (bn b a (k+1))),oD (some u),oD (some v),oD (some u'),oD (some v'))=some ((u+v+(u'+v')) * ((1:Int) / (4:Int):Rat)):=by
  unfold WM
  dsimp only
  rw[ry1,ry2,ry3,ry4,aaI,show bX (some u) (some v)=some (u+v) from dO (cK s1 (by unfold HN; omega) (by unfold HN; omega) (by unfold HN; omega)),show bX (some u') (some v')=some (u'+v') from dO (cK s2 (by unfold HN; omega) (by unfold HN; omega) (by unfold HN; omega)),show bX (some (u+v)) (some (u'+v'))=some (u+v+(u'+v')) from dO (cK s3 (by unfold HN; omega) (by unfold HN; omega) (by unfold HN; omega))]
  exact dO (cK s4 (by unfold HN; omega) (by unfold HN; omega) (by unfold HN; omega))
 have hv:um (oD (some (bn b a k)),oD (some (bn b a (k+1))),oD (some u),oD (some v),oD (some u'),oD (some v'))=true:=by
  unfold um
  dsimp only
  rw[rx1,rx2,ry1,ry2,ry3,ry4,aj (si.2 hlt)]
  have q1:bG (some u) (some u')<=0:=mu.2 m1
  have q2:bG (some v) (some v')<=0:=mu.2 m2
  have q3:bG (some u) (some u')+bG (some v) (some v') < 0:=by
   by_cases c:u < u'
   ·have:=si.2 c
    omega
   ·have:=si.2 (show v < v' by grind)
    omega
  rw[aj q1,aj q2,aj q3]
  have hall:((fD (oD (some (bn b a k)),oD (some (bn b a (k+1))),oD (some u),oD (some v),oD (some u'),oD (some v'))).any fun r=>!br r)=false:=by
   rw[any_eq_false]
   intro r hr
   simp only[fD,mem_cons,mem_nil_iff,or_false] at hr
   have:br r=true:=by
    rcases hr with rfl|rfl|rfl|rfl|rfl|rfl<;>unfold br
    ·rw[rx1]; rfl
    ·rw[rx2]; rfl
    ·rw[ry1]; rfl
    ·rw[ry2]; rfl
    ·rw[ry3]; rfl
    ·rw[ry4]; rfl
   rw[this]; decide
  rw[hall]; rfl
 refine⟨mx,_,?_,g1,?_,k1,rfl⟩
 ·unfold nv
  rw[if_pos hv]
  unfold It FL
  rw[e2]
  dsimp only
  rw[rx1,rx2,e1]; rfl
 ·have c:=s4
  rw[show HN * 4=M4 from rfl] at c
  exact lu c (by unfold M4 HN; omega)
theorem Xf (h:kh b a) {i:Nat} (hi:i < (fc b a).length):gp (nv (nth (t:=bf) (fc b a) i)):=by
 obtain⟨k,hs,u,v,u',v',e,h1,h2,h3⟩:=abh h _ (aS (t:=bf) hi)
 obtain⟨x,y,e2,g1,g2,_⟩:=Zx hs h1 h2 h3
 rw[e]
 exact⟨x,y,e2,g1,g2⟩
def GY (x:Option Rat):Prop:=∀q,x=some q->gY q
theorem yG:GY none:=fun _ h=>by cases h
theorem EZ {q:Rat} (h:gY q):GY (some q):=fun _ e=>by injection e with e; exact e ▸ h
theorem RI {x y:Option Rat} (hx:GY x) (hy:GY y):GY (bP x y):=by
 unfold bP
 split
 ·split
  ·exact hx
  ·exact hy
 ·exact yG
theorem Rx {x y:Option Rat} (hx:GY x) (hy:GY y):GY (iN x y):=by
 unfold iN
 split
 ·split
  ·exact hx
  ·exact hy
 ·exact yG
theorem W0 {es:List DE} (hes:∀e ∈ es,gE e) {q:Rat} (hq:gX q):∀n,n<=es.length->GY (om es (some q) n).1/\GY (om es (some q) n).2.1
 | 0,_=>⟨yG,yG⟩
 | n+1,hn=>by
  obtain⟨i1,i2⟩:=W0 hes hq n J
  have ge:=hes _ (aS (t:=aK) (show n < es.length from J))
  have hy:GY (kY (nth (t:=aK) es n) (some q)):=by rw[u6 ge hq]; exact EZ (Ui ge hq)
  rw[om]
  split
  ·unfold xH
   split
   ·exact⟨RI i1 hy,Rx i2 hy⟩
   ·exact⟨hy,hy⟩
  ·exact⟨i1,i2⟩
theorem Px (h:kh b a) {q:Rat} (hq:gX q):∀n,n<=a.length->∀s ∈ qm a (some q) n,GY (aw s.1)/\GY (aw s.2)
 | 0,_,s,hs=>by cases hs
 | n+1,hn,s,hs=>by
  rw[qm] at hs
  split at hs
  ·rcases mem_append.1 hs with hs|hs
   ·exact Px h hq n J s hs
   ·rw[mem_singleton.1 hs]
    have hp:=aS (t:=.slice an) (show n < a.length from J)
    obtain⟨o1,o2⟩:=EY (nth (t:=.slice an) a n) (some q)
    rw[gr o1,gr o2]
    exact W0 (h.ed _ hp 0) hq _ (le_refl _)
  ·exact Px h hq n J s hs
def Wn (q:Rat) (w:fU):Prop:=∃c d,w=(oD (some q),oD (some c),oD (some d))/\gY c/\gY d/\c < d
theorem Wj {q:Rat} {top cur y:Option Rat} {l:List fU} (hl:∀w ∈ l,Wn q w) (ht:GY top) (hc:GY cur) (hy:GY y):∀w ∈ yu (some q) top cur l y,Wn q w:=by
 intro w hw
 unfold yu at hw
 split at hw
 ·rename_i hcmp
  rcases mem_append.1 hw with hw|hw
  ·exact hl w hw
  ·rw[mem_singleton.1 hw]
   have hm:=RI hy ht
   generalize bP y top=m at *
   cases cur with
   | none=>exact absurd hcmp (by show ¬ (0:Int) < 0; omega)
   | some c =>
    cases m with
    | none=>exact absurd hcmp (by show ¬ (0:Int) < 0; omega)
    | some d=>exact⟨c,d,rfl,hc c rfl,hm d rfl,si.1 hcmp⟩
 ·exact hl w hw
theorem WE {S:List DP} (hS:∀s ∈ S,GY (aw s.1)/\GY (aw s.2)) {q:Rat} {low top:Option Rat} (hl:GY low) (ht:GY top):∀n,n<=S.length->GY (lX S (some q) low top n).1/\∀w ∈ (lX S (some q) low top n).2,Wn q w
 | 0,_=>⟨hl,fun w hw=>by cases hw⟩
 | n+1,hn=>by
  obtain⟨i1,i2⟩:=WE hS (q:=q) hl ht n J
  obtain⟨s1,s2⟩:=hS _ (aS (t:=ax) (show n < S.length from J))
  exact⟨Rx i1 s2,Wj i2 ht i1 s1⟩
theorem ZV (h:kh b a) {q:Rat} (hq:gX q):∀w ∈ Bc b a (some q),Wn q w:=by
 have y1:=h.y1
 have y2:=h.y2
 have g1:GY (aV b.1.2):=EZ (IW J)
 have g2:GY (aV b.2.2):=EZ (IW J)
 obtain⟨i1,i2⟩:=WE (S:=z8 a (some q)) (fun s hs=>Px h hq _ (le_refl _) s (uU hs)) (q:=q) g1 g2 _ (le_refl _)
 exact Wj i2 g2 i1 g2
theorem OQ (h:kh b a):∀n,n+1<=(gL b a).length->∀w ∈ s9 b a (gL b a) n,∃k,k < (gL b a).length/\Wn (bn b a k) w
 | 0,_,w,hw=>by cases hw
 | n+1,hn,w,hw=>by
  rw[s9] at hw
  split at hw
  ·rcases mem_append.1 hw with hw|hw
   ·exact OQ h n J w hw
   ·rw[(ur h (show n+1 < (gL b a).length from J)).1] at hw
    exact⟨n+1,J,ZV h (GD h J) w hw⟩
  ·exact OQ h n J w hw
theorem abQ {q:Rat} (hq:gX q) {w:fU} (hw:Wn q w):∃c d y,w=(oD (some q),oD (some c),oD (some d))/\Ga w=(oD (some q),oD (some y))/\gM q/\gM y/\y=(c+d) * ((1:Int) / (2:Int):Rat)/\c < d:=by
 obtain⟨c,d,rfl,hc,hd,hlt⟩:=hw
 have r0:aw (oD (some q))=some q:=dT (Bb hq)
 have r1:aw (oD (some c))=some c:=dT (kO hc)
 have r2:aw (oD (some d))=some d:=dT (kO hd)
 obtain⟨m,e1,g1,k1⟩:=ac9 hc hd
 have hv:tY (oD (some q),oD (some c),oD (some d))=true:=by
  unfold tY
  have hall:((kA (oD (some q),oD (some c),oD (some d))).any fun r=>!br r)=false:=by
   rw[any_eq_false]
   intro r hr
   simp only[kA,mem_cons,mem_nil_iff,or_false] at hr
   have:br r=true:=by
    rcases hr with rfl|rfl|rfl<;>unfold br
    ·rw[r0]; rfl
    ·rw[r1]; rfl
    ·rw[r2]; rfl
   rw[this]; decide
  dsimp only
  rw[hall,r1,r2,aj (si.2 hlt)]; rfl
 refine⟨c,d,m,rfl,?_,aa7 hq,g1,k1,hlt⟩
 unfold Ga
 rw[if_pos hv]
 unfold wpV FL
 dsimp only
 rw[r0,r1,r2,e1]; rfl
theorem ac1 (h:kh b a) {i:Nat} (hi:i < (nR b a).length):gp (Ga (nth (t:=bz) (nR b a) i)):=by
 obtain⟨k,hk,hw⟩:=OQ h _ (by have:=LY h; omega) _ (aS (t:=bz) hi)
 obtain⟨c,d,y,_,e,g1,g2,_⟩:=abQ (GD h hk) hw
 exact⟨_,_,e,g1,g2⟩
theorem Wg (h:kh b a) {i:Int} (hi:0<=i/\i < ((nR b a).length:Int)):gp (wj (nR b a) i):=by
 unfold wj
 rw[if_pos J]
 exact ac1 h J
end
theorem OX {C:dZ} {i:Int} {W:List fU} {D:List DV} (hD:∀e ∈ D,0<=(e.2:Int)/\(e.2:Int) < (W.length:Int)):∀j,j<=W.length->∀e ∈ sW C i W D j,0<=(e.2:Int)/\(e.2:Int) < (W.length:Int)
 | 0,_=>hD
 | j+1,hj=>fun e he=>by
  rw[sW] at he
  split at he
  ·rcases mem_append.1 he with he|he
   ·exact OX hD j J e he
   ·rw[mem_singleton.1 he]
    show 0<=(j:Int)/\(j:Int) < (W.length:Int)
    omega
  ·exact OX hD j J e he
theorem Wv {C:List dZ} {W:List fU}:∀i,∀e ∈ nM C W i,0<=(e.2:Int)/\(e.2:Int) < (W.length:Int)
 | 0=>fun e he=>by cases he
 | i+1=>OX (Wv i) _ (le_refl _)
theorem Ja {D:List DV} {w:Int}:∀i,i<=D.length->w ∈ qb D i->∃e ∈ D,(e.2:Int)=w
 | 0,_,h=>by cases h
 | i+1,hi,h=>by
  rcases mem_append.1 (show w ∈ qb D i++_ from h) with h|h
  ·exact Ja i J h
  ·exact⟨_,aU (i:=i) J,(mem_singleton.1 h).symm⟩
theorem X6 {D:List DV} {w:Int} (h:w ∈ dj D):∃e ∈ D,(e.2:Int)=w:=Ja _ (le_refl _) (D8.1 h)
theorem Pu {n:Nat} {D:List DV} {dh:List Int} {frm:Int}:∀t,∀w ∈ (qe n D dh frm t).1,w ∈ dj D
 | 0,w,h=>by cases h
 | t+1,w,h=>by
  rw[qe] at h
  unfold E4 at h
  split at h
  ·rename_i x hf
   rcases mem_append.1 h with h|h
   ·exact Pu t w h
   ·rw[mem_singleton.1 h]
    exact List.mem_of_find?_eq_some hf
  ·exact Pu t w h
theorem abD {n:Nat} {D:List DV} {frm to:Nat}:∀w ∈ k7 n D frm to,w ∈ dj D:=by
 intro w h
 unfold k7 at h
 split at h
 ·cases h
 ·exact Pu _ w h
theorem W8 {b:DV × DV} {a:List (List DV)} (h:kh b a) {ws:List Int} {to frm:Int} (hw:∀w ∈ ws,w ∈ dj (j6 b a)) (hr:∀i,i<=ws.length->0<=oe (fc b a).length (j6 b a) ws to frm i/\oe (fc b a).length (j6 b a) ws to frm i < ((fc b a).length:Int)):∀i,i<=ws.length->∀y ∈ wg (fc b a) (nR b a) (fc b a).length (j6 b a) ws to frm i,gp y
 | 0,_,y,hy=>by
  rw[mem_singleton.1 hy]
  have:=hr 0 (zero_le _)
  exact Xf h (i:=frm.toNat) (by have:0<=frm/\frm < ((fc b a).length:Int):=this; omega)
 | i+1,hi,y,hy=>by
  rw[wg,mem_append] at hy
  rcases hy with hy|hy
  ·exact W8 h hw hr i J y hy
  ·simp only[mem_cons,mem_nil_iff,or_false] at hy
   rcases hy with rfl|rfl
   ·obtain⟨e,he,e2⟩:=X6 (hw _ (jM (show i < ws.length from J)))
    rw[<-e2]
    exact Wg h (Wv _ e he)
   ·have:=hr (i+1) hi
    exact Xf h J
theorem ab0 {hd:Int} {o:Bool} {b:DV × DV} {a:List (List DV)} (h:o=true->kh b a) {p q:DP} (hp:gp p) (hq:gp q):∀y ∈ eL (lE hd o b a) p q,gp y:=by
 intro y hy
 cases o
 ·unfold lE at hy
  rw[if_neg ae] at hy
  have e:∀i j:Int,sf (hd,false,((0,0),(0,0)),[],[],[],[],[]) i j=[]:=fun i j=>by
   unfold sf
   rw[if_neg]
   rintro⟨⟨h1,h2⟩,_⟩
   have h2:i<=((0:Nat):Int) - 1:=h2
   omega
  unfold eL lM at hy
  rw[e,if_neg ae] at hy
  cases hy
 ·have h:=h rfl
  unfold lE at hy
  rw[if_pos rfl] at hy
  generalize hx:((hd,true,b,a,fc b a,nR b a,j6 b a,vL (fc b a).length (j6 b a)):bk)=x at hy
  have xC:x.2.2.2.2.1=fc b a:=by rw[<-hx]
  have xW:x.2.2.2.2.2.1=nR b a:=by rw[<-hx]
  have xD:x.2.2.2.2.2.2.1=j6 b a:=by rw[<-hx]
  have hw:∀z:DP,∀y ∈ xq x (gq x z).2,gp y:=fun z y hy=>by
   unfold xq at hy
   split at hy
   ·rename_i hn
    rw[mem_singleton.1 hy,xW]
    refine Wg h ⟨hn,?_⟩
    unfold gq at hn ⊢
    split
    ·rename_i hc; rw[if_pos hc] at hn; exact absurd (show (0:Int)<=-1 from hn) ae
    ·rename_i hc
     rw[if_neg hc] at hn
     split
     ·rename_i hd; rw[if_pos hd] at hn; exact absurd (show (0:Int)<=-1 from hn) ae
     ·have:=NN (t:=bz) (J8 z) x.2.2.2.2.2.1
      rw[<-xW]
      exact this.2
   ·cases hy
  unfold eL at hy
  split at hy
  ·unfold Aw at hy
   simp only[mem_append,mem_cons,mem_nil_iff,or_false] at hy
   rcases hy with ((hy|hy)|rfl)
   ·rcases hy with (rfl|hy)|hy
    ·exact hp
    ·exact hw p y hy
    ·unfold sf at hy
     split at hy
     ·rename_i hrg
      split at hy
      ·cases hy
      ·rename_i hne
       rw[xC,xW,xD] at hy
       rw[xC,xD] at hne
       rw[xC] at hrg
       generalize (gq x p).1=i at *
       generalize (gq x q).1=j at *
       have hld:=E3 (n:=(fc b a).length) (D:=j6 b a) (frm:=i.toNat) (to:=j.toNat) J J (by
        by_cases e:k7 (fc b a).length (j6 b a) i.toNat j.toNat=[]
        ·exact .inr (Classical.byContradiction fun hd=>hne ⟨e,J⟩)
        ·exact .inl e)
       have ei:((i.toNat:Nat):Int)=i:=J
       have ej:((j.toNat:Nat):Int)=j:=J
       rw[ei,ej] at hld
       exact W8 h abD (fun t ht=>QZ hld ⟨J,J⟩ t ht) _ (le_refl _) y hy
     ·cases hy
   ·exact hw q y hy
   ·exact hq
  ·cases hy
variable {code:List Int}
def Zs (C:Cu code) (N:Nat):List (List DV):=lV C N++(if (fK C N).below 6=0 then [qh (6+(fK C N).next.below 8)] else [])
def Mf (C:Cu code) (N:Nat):Cu code:=if (fK C N).below 6=0 then (fK C N).next.next else (fK C N).next
def Cy (C:Cu code) (N:Nat):Nat:=((Mf C N).below 3).toNat
def oc (c:Cu code):List DV × Cu code:=gS c.next.next 2 8
def ss (c:Cu code):Nat:=((oc c).2.below 3).toNat
def W9 (c:Cu code):ey:=((0,0),(14+c.below 12,12+c.next.below 10),(oc c).1,Zs (oc c).2.next (ss c),ui (Mf (oc c).2.next (ss c)).next (Cy (oc c).2.next (ss c)))
def scE (c:Cu code):Cu code:=kH (Mf (oc c).2.next (ss c)).next (Cy (oc c).2.next (ss c))
theorem ZW (c:Cu code):bp (W9 c)=true:=by
 have h1:=c.a7 (n:=12) ae
 have h2:=c.next.a7 (n:=10) ae
 have h3:=(oc c).2.a7 (n:=3) ae
 have h4:=(Mf (oc c).2.next (ss c)).a7 (n:=3) ae
 have h5:=(fK (oc c).2.next (ss c)).next.a7 (n:=8) ae
 refine Sg ⟨show fJ 200 ((0:Int),(0:Int))=true from ae,iO ?_ ?_ ?_ ?_,y6 (yq 2 ae 8 _),?_,?_,?_,Q9 _ _,?_,?_⟩
 ·show -200<=14+_; omega
 ·show 14+_<=(200:Int); omega
 ·show -200<=12+_; omega
 ·show 12+_<=(200:Int); omega
 ·intro l hl
  rcases mem_append.1 (show l ∈ lV _ _++_ from hl) with hl|hl
  ·exact QJ _ _ l hl
  ·split at hl
   ·rw[mem_singleton.1 hl]
    exact SX ⟨J,J⟩
   ·cases hl
 ·show (lV _ _++_).length<=4
  have hN:ss c<=2:=by unfold ss; omega
  rw[length_append,zf]
  split
  ·rw[length_singleton]; omega
  ·rw[List.length_nil]; omega
 ·show (ui _ _).length<=3
  rw[zi]
  unfold Cy; omega
 ·show (0:Int) < 14+_; omega
 ·show (0:Int) < 12+_; omega
theorem KT (c:Cu code):Fn prog 108 [⟨.slice an,(gS c 4 8).1⟩,⟨an,(4+(gS c 4 8).2.below 16,3+(gS c 4 8).2.next.below 12)⟩] true [⟨.slice an,Wu c⟩]:=by
 have h:=y6 (yq 4 ae 8 c)
 obtain⟨v1,v2,v3,v4⟩:=dc (Wc c)
 have h5:=h.kd
 refine CY _ _ J (iO J J J J) fun u hu=>?_
 obtain⟨a1,a2,a3,a4⟩:=dc (h.ins u hu)
 refine⟨iO J J J J,iO ?_ ?_ ?_ ?_⟩
 all_goals (unfold nI; simp only; omega)
theorem Ot (hc:code.length<=1048576) (c:Cu code):Dr 43 c (scE c) [] true ⟨cY,W9 c⟩:=by
 have b1:=c.a7 (n:=12) ae
 have b2:=c.next.a7 (n:=10) ae
 have c1:=bs hc c 12 ae
 have c2:=bs hc c.next 10 ae
 have c3:=CB hc c.next.next 2 ae
 have c4:=bs hc (oc c).2 3 ae
 have rN:=(oc c).2.a7 (n:=3) ae
 have eN:(oc c).2.below 3=(ss c:Int):=by unfold ss; omega
 rw[eN] at c4 rN
 rw[show gS c.next.next 2 8=oc c from rfl] at c3
 unfold W9 scE
 generalize (oc c).1=R at *
 generalize (oc c).2.next=C at *
 generalize ss c=N at *
 generalize c.below 12=H1 at *
 generalize c.next.below 10=H2 at *
 refine ji bK bA func43 rfl rfl _ ntmps43 _ results43 ah (np hc _) (nH _) fun b u0 hwl hzs hwf=>?_
 refine Sz ?_
 refine aO.c false (c1) ?_
 refine Sz ?_
 refine aO.c false (c2) ?_
 refine Sz ?_
 refine aO.c false (c3) ?_
 refine Sz ?_
 refine aO.c false (c4) ?_
 refine Nz ?_
 refine aF.intro _ _ _ (fun k:Nat=>⟨[(0,.ptr 0 0),(2,.ptr 1 0),(3,.ptr 3 0),(4,.sc (.int .i64 ((N:Int) - k)))],[(0,.bx (some b) (.fx u0 .u8 code :: (cz (fK C k)).map fun z=>.sc z)),(1,.box [.sc (.int .i64 0),.sc (.int .i64 0),.sc (.int .i64 0),.sc (.int .i64 0),.sc (.slice none 0 0),.sc (.slice none 0 0),.sc (.slice none 0 0)]),(2,.cU an R),(3,.box [.sc (.int .i64 0),.sc (.int .i64 0),.sc (.int .i64 (14+H1)),.sc (.int .i64 (12+H2)),.row 2 0,.row 9 0,.sc (.slice none 0 0)]),(9,.row 25 (.slice an) 0 true (lV C k))]⟩) (fun k=>k<=N) (fun k=>N - k) 0 ?_ (zero_le _) ?_
 ·refine Wk.fC 3 5 99 25 (.slice an) (by rfl) (by rfl) (by rfl) ?_
  simp only[set_cons_succ,set_cons_zero]
  exact WZz [(9,99)]
 ·rintro k hk
  have c1:=CB hc (fK C k) 4 ae
  have c2:=bs hc (gS (fK C k) 4 8).2 16 ae
  have c3:=bs hc (gS (fK C k) 4 8).2.next 12 ae
  have b2:=(gS (fK C k) 4 8).2.a7 (n:=16) ae
  have b3:=(gS (fK C k) 4 8).2.next.a7 (n:=12) ae
  have c4:=KT (fK C k)
  have hll:=zf C k
  have el:lV C (k+1)=lV C k++[Wu (fK C k)]:=rfl
  have ec:fK C (k+1)=(gS (fK C k) 4 8).2.next.next:=rfl
  have o1:=vJ hc (fK C k) 6 ae
  refine Nz ?_
  refine ao ?_ ?_<;>intro hA
  ·refine Sz ?_
   refine aO.c false (c1) ?_
   refine Sz ?_
   refine aO.c false (c2) ?_
   refine Sz ?_
   refine aO.c false (c3) ?_
   refine Bz c4 ?_
   refine Tz hll ?_
   refine az.mk (k+1) ?_ J J
   rw[ec,el]
   exact WK
  ·have e:N=k:=J
   subst e
   have b4:=(fK C N).next.a7 (n:=8) ae
   by_cases hB:(fK C N).below 6=0
   ·rw[aj hB] at o1
    have eC:Mf C N=(fK C N).next.next:=if_pos hB
    have eO:Zs C N=lV C N++[qh (6+(fK C N).next.below 8)]:=congrArg (lV C N++·) (if_pos hB)
    have c5:=bs hc (fK C N).next 8 ae
    have c6:=bs hc (fK C N).next.next 3 ae
    have b6:=(fK C N).next.next.a7 (n:=3) ae
    have eM:(fK C N).next.next.below 3=(Cy C N:Int):=by unfold Cy; rw[eC]; omega
    rw[eM] at c6 b6
    rw[eO,eC]
    generalize Cy C N=M at *
    refine Sz ?_
    refine aO.c false (o1) ?_
    refine Nz ?_
    refine Tz hll ?_
    refine aO.c false (c5) ?_
    refine Sz ?_
    refine Tz hll ?_
    refine aO.c false (c6) ?_
    refine Nz ?_
    generalize (fK C N).next.next.next=X at *
    refine aF.intro _ _ _ (fun m:Nat=>⟨[(0,.ptr 0 0),(2,.ptr 1 0),(3,.ptr 3 0),(7,.sc (.int .i64 ((M:Int) - m)))],[(0,.bx (some b) (.fx u0 .u8 code :: (cz (kH X m)).map fun z=>.sc z)),(1,.box [.sc (.int .i64 0),.sc (.int .i64 0),.sc (.int .i64 0),.sc (.int .i64 0),.sc (.slice none 0 0),.sc (.slice none 0 0),.sc (.slice none 0 0)]),(2,.cU an R),(3,.box [.sc (.int .i64 0),.sc (.int .i64 0),.sc (.int .i64 (14+H1)),.sc (.int .i64 (12+H2)),.row 2 0,.row 9 0,.row 10 0]),(9,.row 25 (.slice an) 0 true (lV C N++[qh (6+(fK C N).next.below 8)])),(10,.row 24 an 0 true (ui X m))]⟩) (fun m=>m<=M) (fun m=>M - m) 0 ?_ (zero_le _) ?_
    ·refine Wk.fC 3 6 99 24 an (by rfl) (by rfl) (by rfl) ?_
     simp only[set_cons_succ,set_cons_zero]
     exact WZz [(10,99)]
    ·rintro m hk
     have c1:=bs hc (kH X m) 18 ae
     have c2:=bs hc (kH X m).next 14 ae
     have b1:=(kH X m).a7 (n:=18) ae
     have b2:=(kH X m).next.a7 (n:=14) ae
     have hll:=zi X m
     have el:ui X (m+1)=ui X m++[(3+(kH X m).below 18,3+(kH X m).next.below 14)]:=rfl
     have ec:kH X (m+1)=(kH X m).next.next:=rfl
     refine Nz ?_
     refine ao ?_ ?_<;>intro hA
     ·refine Sz ?_
      refine aO.c false (c1) ?_
      refine Sz ?_
      refine aO.c false (c2) ?_
      refine Sz ?_
      refine Tz hll ?_
      refine az.mk (m+1) ?_ J J
      rw[ec,el]
      exact WK
     ·have e:M=m:=J
      rw[e]
      all_goals exact Fz
   ·rw[ak hB] at o1
    have eC:Mf C N=(fK C N).next:=if_neg hB
    have eO:Zs C N=lV C N:=(congrArg (lV C N++·) (if_neg hB)).trans (append_nil _)
    have c6:=bs hc (fK C N).next 3 ae
    have b6:=(fK C N).next.a7 (n:=3) ae
    have eM:(fK C N).next.below 3=(Cy C N:Int):=by unfold Cy; rw[eC]; omega
    rw[eM] at c6 b6
    rw[eO,eC]
    generalize Cy C N=M at *
    refine Sz ?_
    refine aO.c false (o1) ?_
    refine Nz ?_
    refine Tz hll ?_
    refine aO.c false (c6) ?_
    refine Nz ?_
    generalize (fK C N).next.next=X at *
    refine aF.intro _ _ _ (fun m:Nat=>⟨[(0,.ptr 0 0),(2,.ptr 1 0),(3,.ptr 3 0),(7,.sc (.int .i64 ((M:Int) - m)))],[(0,.bx (some b) (.fx u0 .u8 code :: (cz (kH X m)).map fun z=>.sc z)),(1,.box [.sc (.int .i64 0),.sc (.int .i64 0),.sc (.int .i64 0),.sc (.int .i64 0),.sc (.slice none 0 0),.sc (.slice none 0 0),.sc (.slice none 0 0)]),(2,.cU an R),(3,.box [.sc (.int .i64 0),.sc (.int .i64 0),.sc (.int .i64 (14+H1)),.sc (.int .i64 (12+H2)),.row 2 0,.row 9 0,.row 10 0]),(9,.row 25 (.slice an) 0 true (lV C N)),(10,.row 24 an 0 true (ui X m))]⟩) (fun m=>m<=M) (fun m=>M - m) 0 ?_ (zero_le _) ?_
    ·refine Wk.fC 3 6 99 24 an (by rfl) (by rfl) (by rfl) ?_
     simp only[set_cons_succ,set_cons_zero]
     exact WZz [(10,99)]
    ·rintro m hk
     have c1:=bs hc (kH X m) 18 ae
     have c2:=bs hc (kH X m).next 14 ae
     have b1:=(kH X m).a7 (n:=18) ae
     have b2:=(kH X m).next.a7 (n:=14) ae
     have hll:=zi X m
     have el:ui X (m+1)=ui X m++[(3+(kH X m).below 18,3+(kH X m).next.below 14)]:=rfl
     have ec:kH X (m+1)=(kH X m).next.next:=rfl
     refine Nz ?_
     refine ao ?_ ?_<;>intro hA
     ·refine Sz ?_
      refine aO.c false (c1) ?_
      refine Sz ?_
      refine aO.c false (c2) ?_
      refine Sz ?_
      refine Tz hll ?_
      refine az.mk (m+1) ?_ J J
      rw[ec,el]
      exact WK
     ·have e:M=m:=J
      rw[e]
      all_goals exact Fz
theorem Vp {a:Int} (h:a.natAbs < 1000000000):fit ((a:Rat) / 2):=MY (d:=2) h ae
theorem VS:((2:Int):Rat)=2:=rfl
theorem abE:((1:Int):Rat)=1:=rfl
def hp (v:Int × Int):DP:=(fo ((v.1:Rat) / 2),fo ((v.2:Rat) / 2))
def U1 (v:Int × Int):Prop:=0<=v.1/\v.1<=100/\0<=v.2/\v.2<=100
section
variable {vs:List (Int × Int)} {a:Int} {bN:List Int}
end
variable {code:List Int}
def wy (c:Cu code):Int × Int:=(2 * (1+c.below 22)+(if c.next.next.below 2=0 then 1 else 0),2 * (1+c.next.below 18))
theorem Sy (c:Cu code):U1 (wy c):=by
 have h1:=c.a7 (n:=22) ae
 have h2:=c.next.a7 (n:=18) ae
 unfold U1 wy
 simp only
 split<;>omega
theorem xE (x:Int):fE x=fo (((2 * x:Int):Rat) / 2):=by
 rw[ij]
 refine congrArg fo ?_
 rw[Rat.intCast_mul,VS]; grind
theorem Nq (x:Int):(x:Rat)+((1:Int):Rat) / ((2:Int):Rat)=((2 * x+1:Int):Rat) / 2:=by
 rw[Rat.intCast_add,Rat.intCast_mul,VS,abE]; grind
theorem TQ (hc:code.length<=1048576) (c:Cu code):Dr 126 c c.next.next.next [] true ⟨ax,hp (wy c)⟩:=by
 have h1:=c.a7 (n:=22) ae
 have h2:=c.next.a7 (n:=18) ae
 have cp:=KW (1+c.below 22,1+c.next.below 18)
 have cr:=Se 1 2 ae ae
 have hh:fit (((1:Int):Rat) / ((2:Int):Rat)):=MY ae ae
 rw[Mr hh] at cr
 have ca:=Gs (ct (1+c.below 22,1+c.next.below 18)).1 (oD (some (((1:Int):Rat) / ((2:Int):Rat))))
 rw[show aw (ct (1+c.below 22,1+c.next.below 18)).1=some ((1+c.below 22:Int):Rat) by rw[show (ct (1+c.below 22,1+c.next.below 18)).1=fE (1+c.below 22) from rfl,ij]; exact aaW (Yk J),gr (aa1 hh),YQ (by rw[Nq]; exact Vp J),Nq] at ca
 by_cases hb:c.next.next.below 2=0
 ·have e:hp (wy c)=(oD (some (((2 * (1+c.below 22)+1:Int):Rat) / 2)),(ct (1+c.below 22,1+c.next.below 18)).2):=by
   have e1:(ct (1+c.below 22,1+c.next.below 18)).2=fo (((2 * (1+c.next.below 18):Int):Rat) / 2):=xE _
   rw[e1]; unfold wy; rw[if_pos hb]; rfl
  rw[e]
  refine ji bK bA func126 rfl rfl _ ntmps126 _ results126 ah (np hc _) (nH _) fun b u0 hwl hzs hwf=>?_
  refine Sz ?_
  refine aO.c false (bs hc c 22 J) ?_
  refine Sz ?_
  refine aO.c false (bs hc c.next 18 J) ?_
  refine Cz cp ?_
  refine aO.c false (vJ hc c.next.next 2 J) ?_
  refine Nz ?_
  refine ao (fun hB=>?_) (fun hB=>absurd hb hB)
  refine Cz cr ?_
  refine cw ca ?_
  all_goals exact Fz
 ·have e:hp (wy c)=ct (1+c.below 22,1+c.next.below 18):=by
   unfold wy; rw[if_neg hb,Int.add_zero]
   unfold ct hp
   rw[xE,xE]
  rw[e]
  refine ji bK bA func126 rfl rfl _ ntmps126 _ results126 ah (np hc _) (nH _) fun b u0 hwl hzs hwf=>?_
  refine Sz ?_
  refine aO.c false (bs hc c 22 J) ?_
  refine Sz ?_
  refine aO.c false (bs hc c.next 18 J) ?_
  refine Cz cp ?_
  refine aO.c false (vJ hc c.next.next 2 J) ?_
  refine Nz ?_
  refine ao (fun hB=>absurd hB hb) (fun hB=>?_)
  all_goals exact Fz
variable {code:List Int}
def KC (code:List Int) (hc:code.length<=1048576):ey:=W9 (Cu.new code hc)
theorem KE (hc:code.length<=1048576):Fn prog 10 [⟨.slice .u8,code⟩] false [⟨cY,KC code hc⟩]:=by
 rw[KC]
 refine fe func10 ntmps10 results10 fun hwf=>?_
 refine Sz ?_
 refine aO.nb (E2 hc) ?_
 refine Sz ?_
 refine aO.c false (Ot hc (Cu.new code hc)) ?_
 all_goals exact Fz
def jP (s:dG) (h:Int):bk:=lE h (mJ s h) (Ae s h) (xI s h)
theorem abd {s:dG} (hs:bp s=true) (h:Int):(((Ae s h).1.1).natAbs<=1000/\((Ae s h).1.2).natAbs<=1000)/\(((Ae s h).2.1).natAbs<=1000/\((Ae s h).2.2).natAbs<=1000):=by
 cases e:mJ s h
 ·rw[Db e]; decide
 ·rw[OP e]
  have:=ab5 hs h
  have key:∀{a b c d:Int},((-220<=a/\a<=220)/\(-220<=b/\b<=220))/\((-220<=c/\c<=220)/\(-220<=d/\d<=220))->((a.natAbs<=1000/\b.natAbs<=1000)/\(c.natAbs<=1000/\d.natAbs<=1000)):=by
   intro a b c d h; omega
  exact key this
theorem ON {s:dG} (hs:bp s=true) (h:Int):∀x ∈ xI s h,bO x:=by
 cases e:bp s && og h
 ·rw[yz e]; intro x hx; cases hx
 ·rw[y7 e]; exact TC hs h
theorem ML {s:dG} (hs:bp s=true) (h:Int):(xI s h).length<=4:=by
 cases e:bp s && og h
 ·rw[yz e]; exact zero_le _
 ·rw[y7 e,LS]; exact (de hs).Pe
theorem Z5 {s:dG} (hs:bp s=true) {h:Int} (hh:0<=h/\h<=3):Fn prog 48 [⟨cY,s⟩,⟨.int,h⟩] false [⟨aP,jP s h⟩]:=by
 have c1:=gA s
 rw[hs] at c1
 exact Oq (fun e=>Db e) c1 hh (HI s h) (AJ s h) (abd hs h) (fun x hx=>jg (ON hs h x hx)) (ML hs h)
section
variable {h:Int} {o:Bool} {b:DV × DV} {a:List (List DV)}
theorem TS (hp:∀x ∈ a,dD x=true) (ha:a.length<=4):(fc b a).length<=150000:=by
 have h1:=N3 (b:=b) hp ha
 have h2:=zn b a (gL b a) ha ((gL b a).length - 1)
 unfold fc; omega
theorem PG {b:DV × DV} {a:List (List DV)}:∀e ∈ j6 b a,e.1.toNat < (fc b a).length:=fun e he=>by
 have h1:=J3 (fc b a) (nR b a) _ (le_refl _) e he
 have key:∀(x:Int) (n:Nat),0<=x/\x < (n:Int)->x.toNat < n:=by intro x n h; omega
 exact key _ _ h1
theorem abu (hp:∀x ∈ a,dD x=true) (ha:a.length<=4):(lE h o b a).2.2.2.2.2.2.2.length<=1048576:=by
 unfold lE
 split
 ·have h1:=TS (b:=b) hp ha
  have h2:=(w5 PG (fc b a).length (ds:=j6 b a)).1
  show (vL (fc b a).length (j6 b a)).length<=_
  unfold vL
  omega
 ·exact zero_le _
theorem XR:∀v ∈ (lE h o b a).2.2.2.2.2.2.2,v=-1\/(0<=v/\v < (mC (lE h o b a).2.2.2.2.2.2.2:Int)):=by
 unfold lE
 split
 ·exact ZI PG
 ·intro v hv; cases hv
end
def dS (s:dG):Nat->List bk
 | 0=>[]
 | k+1=>dS s k++[jP s (k:Int)]
theorem kR (s:dG):∀k,(dS s k).length=k
 | 0=>rfl
 | k+1=>by rw[dS,length_append,kR s k]; rfl
theorem sv {s:dG}:∀{k:Nat} {x:bk},x ∈ dS s k->∃j < k,x=jP s (j:Nat)
 | 0,_,h=>by cases h
 | k+1,x,h=>by
  rcases mem_append.1 (show x ∈ dS s k++_ from h) with h|h
  ·obtain⟨j,hj,e⟩:=sv h
   exact⟨j,J,e⟩
  ·exact⟨k,J,mem_singleton.1 h⟩
theorem vp (s:dG):∀{k j:Nat},j < k->nth (t:=aP) (dS s k) j=jP s (j:Nat)
 | 0,_,h=>J
 | k+1,j,h=>by
  show ((dS s k++[jP s (k:Int)])[j]?).getD _=_
  by_cases e:j < k
  ·rw[List.getElem?_append_left (by rw[kR]; exact e)]
   exact vp s e
  ·obtain rfl:j=k:=J
   rw[List.getElem?_append_right (by rw[kR]; exact le_refl _),kR,Nat.sub_self]; rfl
theorem EP {s:dG} (hs:bp s=true):sV (dS s 4):=⟨kR s 4,fun x hx=>by
 obtain⟨j,_,rfl⟩:=sv hx
 exact abu (fun x hx=>jg (ON hs _ x hx)) (ML hs _),fun x hx=>by
 obtain⟨j,_,rfl⟩:=sv hx
 exact XR⟩
def Pz (s:dG):DRd:=(s,dS s 4,l7 s,Ih (dS s 4) s.2.2.2.2 (l7 s))
theorem xk {s:dG}:∀{i:Nat} {k:Int},k ∈ rI s i->0<=k/\k < (i:Int)
 | 0,_,h=>by cases h
 | i+1,k,h=>by
  unfold rI at h
  split at h
  ·rcases mem_append.1 h with h|h
   ·have:=xk h; omega
   ·rw[mem_singleton.1 h]; omega
  ·have:=xk h; omega
variable {code:List Int}
theorem Kk (m:Int) (hm:1<=m/\m<=20):∀(k:Nat) (c:Cu code),∀v ∈ (gS c m k).1,fJ m v=true
 | 0,c,v,hv=>by
  have hv:v ∈ LU:=hv
  simp only[LU,mem_cons,not_mem_nil,or_false] at hv
  rcases hv with rfl|rfl|rfl<;>exact iO (by simp only; omega) (by simp only; omega) (by simp only; omega) (by simp only; omega)
 | k+1,c,v,hv=>by
  unfold gS at hv
  split at hv
  ·exact CF c.next (m:=m) J _ v (Bl hv)
  ·exact Kk m hm k (G5 c) v hv
def ZL (l:List DV):Prop:=gI 200 l/\((∃t:DV,fJ 30 t=true/\∀v ∈ l,∃u,fJ 4 u=true/\v=nI t u)\/∃x:Int,(6<=x/\x<=13)/\l=qh x)
structure ot (s:dG):Prop where
 low:s.1=((0:Int),(0:Int))
 high:(14<=(s.2.1.1:Int)/\(s.2.1.1:Int)<=30)/\(12<=(s.2.1.2:Int)/\(s.2.1.2:Int)<=30)
 zN:gI 2 s.2.2.1
 z7:∀l ∈ s.2.2.2.1,ZL l
 nob:s.2.2.2.1.length<=3
 ok:bp s=true
theorem Wa (c:Cu code):∀k,∀l ∈ lV c k,ZL l
 | 0=>fun l hl=>by cases hl
 | k+1=>fun l hl=>by
  rw[lV,mem_append,mem_singleton] at hl
  rcases hl with hl|rfl
  ·exact Wa c k l hl
  ·refine⟨Qd _,.inl ⟨(4+(gS (fK c k) 4 8).2.below 16,3+(gS (fK c k) 4 8).2.next.below 12),?_,fun v hv=>?_⟩⟩
   ·have h1:=(gS (fK c k) 4 8).2.a7 (n:=16) ae
    have h2:=(gS (fK c k) 4 8).2.next.a7 (n:=12) ae
    exact iO (by simp only; omega) (by simp only; omega) (by simp only; omega) (by simp only; omega)
   ·obtain⟨u,hu,rfl⟩:=mem_map.1 hv
    exact⟨u,Kk 4 ae 8 _ u hu,rfl⟩
theorem aaD (hc:code.length<=1048576):ot (KC code hc):=by
 unfold KC
 generalize Cu.new code hc=c
 have h1:=c.a7 (n:=12) ae
 have h2:=c.next.a7 (n:=10) ae
 have h3:=(oc c).2.a7 (n:=3) ae
 have h5:=(fK (oc c).2.next (ss c)).next.a7 (n:=8) ae
 have hr:=y6 (yq 2 ae 8 c.next.next)
 refine⟨rfl,⟨⟨?_,?_⟩,?_,?_⟩,⟨hr.kd,hr.iX,Kk 2 ae 8 _⟩,fun l hl=>?_,?_,ZW c⟩
 ·show (14:Int)<=14+_; omega
 ·show (14:Int)+_<=30; omega
 ·show (12:Int)<=12+_; omega
 ·show (12:Int)+_<=30; omega
 ·rcases mem_append.1 (show l ∈ lV _ _++_ from hl) with hl|hl
  ·exact Wa _ _ l hl
  ·split at hl
   ·rw[mem_singleton.1 hl]
    exact⟨SX ⟨J,J⟩,.inr ⟨_,⟨J,J⟩,rfl⟩⟩
   ·cases hl
 ·show (lV _ _++_).length<=3
  have hN:ss c<=2:=by unfold ss; omega
  rw[length_append,zf]
  split
  ·rw[length_singleton]; omega
  ·rw[List.length_nil]; omega
theorem MJ {a b:List DV} (ha:bO a) (hb:bO b):LP (fun p=>p ∈ fv a b) (bT (fv a b)):=by
 have la:3<=a.length:=by have:=ha.1.1; omega
 have lb:3<=b.length:=by have:=hb.1.1; omega
 refine IJ (l:=fv a b) ?_
 have m0:nth (t:=an) b 0 ∈ b:=aU J
 have r0:(dB a.length 0).toNat=1:=rQ J
 refine⟨_,gv.2 ⟨_,aU (l:=a) (i:=0) J,_,m0,rfl⟩,_,gv.2 ⟨_,aU (l:=a) (i:=1) J,_,m0,rfl⟩,_,gv.2 ⟨_,aU (l:=a) (i:=2) J,_,m0,rfl⟩,?_⟩
 rw[Hg]
 have:=Ef ha (i:=0) (k:=2) J J J J
 rw[r0] at this
 omega
structure Nr (a b:DV):Prop where
 w:-12<=b.1 - a.1/\b.1 - a.1<=12
 h:-12<=b.2 - a.2/\b.2 - a.2<=12
 a:(-100<=a.1/\a.1<=100)/\(-100<=a.2/\a.2<=100)
 b:(-100<=b.1/\b.1<=100)/\(-100<=b.2/\b.2<=100)
theorem Ss {x:Int} {v:DV} (h:v ∈ qh x):(v.1=x\/v.1=x+2)/\(v.2=-1\/v.2=40):=by
 simp only[qh,mem_cons,not_mem_nil,or_false] at h
 rcases h with rfl|rfl|rfl|rfl<;>exact⟨by simp,by simp⟩
theorem Wp {x p q:Int} (h1:p=x\/p=x+2) (h2:q=-1\/q=40):(p,q) ∈ qh x:=by
 simp only[qh,mem_cons,not_mem_nil,or_false]
 rcases h1 with rfl|rfl<;>rcases h2 with rfl|rfl<;>simp
theorem ab3 {o r:List DV} (ho:ZL o) (hr:gI 2 r) {i:Nat} (hi:i < (bT (fv o r)).length) (hne:(nth (t:=an) (bT (fv o r)) i).1 ≠ (nth (t:=an) (bT (fv o r)) ((i+1) % (bT (fv o r)).length)).1):Nr (nth (t:=an) (bT (fv o r)) i) (nth (t:=an) (bT (fv o r)) ((i+1) % (bT (fv o r)).length)):=by
 have hC:=MJ ho.1.iX hr.iX
 have h3:=hC.three
 have hlow:=hC.low i hi
 have en:(dB (bT (fv o r)).length i).toNat=(i+1) % (bT (fv o r)).length:=Z1
 rw[en] at hlow
 have m1:=hC.sub _ (aU hi)
 have m2:=hC.sub _ (aU (i:=(i+1) % (bT (fv o r)).length) (Nat.mod_lt _ J))
 generalize nth (t:=an) (bT (fv o r)) i=a at *
 generalize nth (t:=an) (bT (fv o r)) ((i+1) % (bT (fv o r)).length)=b at *
 clear en hC h3 hi
 obtain⟨p,hp,u,hu,rfl⟩:=gv.1 m1
 obtain⟨q,hq,v,hv,rfl⟩:=gv.1 m2
 obtain⟨u1,u2,u3,u4⟩:=dc (hr.ins u hu)
 obtain⟨v1,v2,v3,v4⟩:=dc (hr.ins v hv)
 rcases ho.2 with ⟨t,ht,hall⟩|⟨x,hx,rfl⟩
 ·obtain⟨t1,t2,t3,t4⟩:=dc ht
  obtain⟨p',hp',rfl⟩:=hall p hp
  obtain⟨q',hq',rfl⟩:=hall q hq
  obtain⟨p1,p2,p3,p4⟩:=dc hp'
  obtain⟨q1,q2,q3,q4⟩:=dc hq'
  constructor<;>simp only[fb,nI]<;>omega
 ·obtain⟨p1,p2⟩:=Ss hp
  obtain⟨q1,q2⟩:=Ss hq
  by_cases hy:p.2=q.2
  ·constructor
   ·simp only[fb]; omega
   ·simp only[fb]; omega
   ·simp only[fb]; omega
   ·simp only[fb]; omega
  ·exfalso
   have k1:=hlow (fb (p.1,q.2) u) (gv.2 ⟨_,Wp p1 q2,u,hu,rfl⟩)
   have k2:=hlow (fb (q.1,p.2) v) (gv.2 ⟨_,Wp q1 p2,v,hv,rfl⟩)
   simp only[fb] at hne
   unfold bQ fb at k1 k2
   simp only at k1 k2
   obtain⟨D,hD⟩:∃D,D=v.1+q.1 - (u.1+p.1):=⟨_,rfl⟩
   have e1:(v.1+q.1 - (u.1+p.1)) * (u.2+q.2 - (u.2+p.2)) - (v.2+q.2 - (u.2+p.2)) * (u.1+p.1 - (u.1+p.1))=D * (q.2 - p.2):=by rw[hD]; grind
   have e2:(v.1+q.1 - (u.1+p.1)) * (v.2+p.2 - (u.2+p.2)) - (v.2+q.2 - (u.2+p.2)) * (v.1+q.1 - (u.1+p.1))=-(D * (q.2 - p.2)):=by rw[hD]; grind
   rw[e1] at k1
   rw[e2] at k2
   have e3:D * (q.2 - p.2)=0:=J
   rcases Int.mul_eq_zero.1 e3 with h|h
   ·rw[hD] at h; exact hne (Int.eq_of_sub_eq_zero h).symm
   ·clear k1 k2 e1 e2 e3; omega
theorem Xr {a b:DV} {n:Int} {f:Bool} (h:Nr a b) (hl:a.1 < b.1):gE (a,b,n,f):=by
 obtain⟨⟨w1,w2⟩,⟨h1,h2⟩,⟨⟨a1,a2⟩,a3,a4⟩,⟨⟨b1,b2⟩,b3,b4⟩⟩:=h
 refine⟨⟨?_,?_⟩,⟨?_,?_⟩,⟨?_,?_⟩,?_,?_⟩
 ·show 1<=b.1 - a.1; omega
 ·show b.1 - a.1<=12; omega
 ·show -12<=b.2 - a.2; omega
 ·show b.2 - a.2<=12; omega
 ·show -100<=a.1; omega
 ·show a.1<=100; omega
 ·show -100<=a.2; omega
 ·show a.2<=100; omega
theorem Nr.sym {a b:DV} (h:Nr a b):Nr b a:=⟨by have:=h.w; omega,by have:=h.h; omega,h.b,h.a⟩
theorem Xj {l:List DV} {n:Int} (h:∀i,i < l.length->(nth (t:=an) l i).1 ≠ (nth (t:=an) l ((i+1) % l.length)).1->Nr (nth (t:=an) l i) (nth (t:=an) l ((i+1) % l.length))):∀i,i<=l.length->∀e ∈ wv l n i,gE e
 | 0,_,e,he=>by cases he
 | i+1,hi,e,he=>by
  rw[wv] at he
  rcases mem_append.1 he with he|he
  ·exact Xj h i J e he
  ·have h:=h i J
   unfold FH at he
   dsimp only at he
   generalize nth (t:=an) l i=a at *
   generalize nth (t:=an) l ((i+1) % l.length)=b at *
   split at he
   ·rename_i hlt
    rw[mem_singleton.1 he]
    exact Xr (h (Int.ne_of_lt hlt)) hlt
   ·split at he
    ·rename_i hlt
     rw[mem_singleton.1 he]
     exact Xr (h (Ne.symm (Int.ne_of_lt hlt))).sym hlt
    ·cases he
variable {s:dG}
theorem ot.ed (hs:ot s) {h:Int}:∀p ∈ xI s h,∀n,∀e ∈ px p n,gE e:=by
 intro p hp n e he
 cases e2:bp s && og h
 ·rw[yz e2] at hp; cases hp
 ·rw[y7 e2] at hp
  obtain⟨o,ho,rfl⟩:=mem_map.1 hp
  exact Xj (fun i hi hne=>ab3 (hs.z7 o ho) ((hs.zN.VU _).neg) hi hne) _ (le_refl _) e he
theorem ot.wid (hs:ot s) (h:Int):((-2<=(fg (di s h)).1.1/\(fg (di s h)).1.1<=2)/\(-2<=(fg (di s h)).1.2/\(fg (di s h)).1.2<=2))/\((-2<=(fg (di s h)).2.1/\(fg (di s h)).2.1<=2)/\(-2<=(fg (di s h)).2.2/\(fg (di s h)).2.2<=2)):=by
 have h1:gI 2 (di s h):=hs.zN.VU _
 exact Kn h1.ins (by have:=h1.iX.1.1; omega) _ (le_refl _)
theorem ot.frame (hs:ot s) {h:Int} (ho:mJ s h=true):kh (Ae s h) (xI s h):=by
 have hw:=hs.wid h
 have hh:=hs.high
 have hl:=hs.low
 rw[OP ho]
 have l1:(s.1.1:Int)=0:=congrArg fst hl
 have l2:(s.1.2:Int)=0:=congrArg snd hl
 have key:∀{a b c d p q x y:Int},((-2<=a/\a<=2)/\(-2<=b/\b<=2))/\((-2<=c/\c<=2)/\(-2<=d/\d<=2))->(14<=p/\p<=30)/\(12<=q/\q<=30)->x=0->y=0->(-100<=x - a/\x - a<=100)/\(-100<=y - b/\y - b<=100)/\(-100<=p - c/\p - c<=100)/\(-100<=q - d/\q - d<=100)/\x - a < p - c:=by
  intros; omega
 obtain⟨k1,k2,k3,k4,k5⟩:=key hw hh l1 l2
 exact⟨k1,k2,k3,k4,k5,fun p hp=>jg (ON hs.ok h p hp),fun p hp n e he=>hs.ed p hp n e he⟩
theorem Un (hs:ot s) (h:Int):(xI s h).length<=3:=by
 cases e:bp s && og h
 ·rw[yz e]; exact zero_le _
 ·rw[y7 e,LS]; exact hs.nob
theorem Yz (hs:ot s) (h:Int):∀p ∈ xI s h,p.length<=10:=by
 intro p hp
 cases e:bp s && og h
 ·rw[yz e] at hp; cases hp
 ·rw[y7 e] at hp
  obtain⟨o,ho,rfl⟩:=mem_map.1 hp
  have hr:gI 2 ((di s h).map nU):=(hs.zN.VU _).neg
  have:=Mg (hs.z7 o ho).1.iX hr.iX (MJ (hs.z7 o ho).1.iX hr.iX)
  have:=(hs.z7 o ho).1.kd
  have:=hr.kd
  show (bT (fv o ((di s h).map nU))).length<=10
  omega
theorem zm {f:FuncId} {s:dG} {S:List bk} {op:List Int} {L:List (List Int)} {args:List aL} {own:Bool} {res:List aL} (h:Fn prog f (⟨Cj,(s,S,op,some (0:Int))⟩ :: args) own res):Fn prog f (⟨mc,(s,S,op,L)⟩ :: args) own res:=by
 refine⟨h.1,fun w vs Q hg ha=>?_⟩
 match vs,ha with
 | v :: vs,⟨⟨fp,⟨cs,hp,hrep⟩,hS⟩,hr⟩ =>
  obtain⟨c1,c2,f1,f2,rfl,rfl,h1,c3,c4,f3,f4,rfl,rfl,h2,c5,c6,f5,f6,rfl,rfl,h3,h4⟩:=hrep
  have h4':∃u,c6=[u]/\u.oneCell'=true:=by
   obtain⟨ad,cc,rfl,_⟩:=h4
   exact⟨_,rfl,rfl⟩
  obtain⟨u,rfl,hu⟩:=h4'
  refine h.2 w (v :: vs) Q hg ⟨⟨f1++(f3++(f5++[])),⟨_,hp,c1,_,f1,_,rfl,rfl,h1,c3,_,f3,_,rfl,rfl,h2,c5,[u],f5,[],rfl,rfl,h3,u,rfl,hu,rfl⟩,fun b hb=>hS b ?_⟩,hr⟩
  simp only[mem_append,not_mem_nil,or_false] at hb ⊢
  rcases hb with hb|hb|hb
  ·exact .inl hb
  ·exact .inr (.inl hb)
  ·exact .inr (.inr (.inl hb))
theorem IY {n i:Nat} {p:Nat->Bool} (hi:i < n) (hp:p i=true) (hm:∀j,j < i->p j=false):(List.range n).find? p=some i:=by
 rw[List.find?_range_eq_some]
 exact⟨hp,mem_range.2 hi,fun j hj=>by rw[hm j hj]; rfl⟩
theorem Be {n:Nat} {p:Nat->Bool} (hm:∀j,j < n->p j=false):(List.range n).find? p=none:=by
 rw[List.find?_eq_none]
 intro j hj
 rw[hm j (mem_range.1 hj)]; decide
def ik (S:List bk) (k:Int):Int:=if k < 0 then -1 else match (List.range S.length).find? fun h=>decide (k - (ee S (h+1):Int) < 0) with
 | some h=>(h:Int)
 | none=>-1
theorem rP (s:dG) (S:List bk) (op:List Int) (L:List (List Int)) (k:Int) (hk:k<=1000000000) (hl:S.length<=100) (hS:∀x ∈ S,x.2.2.2.2.2.2.2.length<=1048576):Fn prog 55 [⟨mc,(s,S,op,L)⟩,⟨.int,k⟩] false [⟨.int,ik S k⟩]:=by
 refine zm ?_
 have hfl:=yp hS
 have e0:((ee S 0:Nat):Int)=0:=rfl
 have hs:∀i,(ee S (i+1):Int)=(ee S i:Int)+(mC (nth (t:=aP) S i).2.2.2.2.2.2.2:Nat):=fun i=>by rw[ee]; omega
 obtain⟨⟨a1,a2⟩,⟨b1,b2⟩,r,ob,tb⟩:=s
 unfold ik
 by_cases g:k < 0
 ·rw[if_pos g]
  have e:=aj g
  refine fe func55 ntmps55 results55 fun hwf=>?_
  exact Gz e
 ·rw[if_neg g]
  have e:=ak g
  refine fe func55 ntmps55 results55 fun hwf=>?_
  refine Tz e ?_
  refine aF.intro _ _ _ (fun i:Nat=>⟨[(1,.sc (.int .i64 (k - (ee S i:Nat)))),(10,.sl aP S),(11,.sc (.int .i64 S.length)),(12,.sc (.int .i64 i))],[]⟩) (fun i=>i<=S.length/\∀j,j < i->decide (k - (ee S (j+1):Int) < 0)=false) (fun i=>S.length - i) 0 ?_ ⟨zero_le _,fun j hj=>absurd hj (not_lt_zero _)⟩ ?_
  ·rw[e0]
   exact WK
  ·rintro i ⟨hi,hm⟩
   have hfi:=hfl i hi
   refine Nz ?_
   refine ao ?_ ?_<;>intro hA
   ·have hit:i < S.length:=J
    have hx:=hS _ (aS (t:=aP) hit)
    have c1:=wF _ hx
    have hc:=uz (nth (t:=aP) S i).2.2.2.2.2.2.2
    have hsi:=hs i
    refine Cz c1 ?_
    rw[show k - (ee S i:Int) - (mC (nth (t:=aP) S i).2.2.2.2.2.2.2:Nat)=k - (ee S (i+1):Nat) from J]
    refine ao ?_ ?_<;>intro hB
    ·rw[IY hit (aj hB) hm]
     all_goals exact Fz
    ·refine Sz ?_
     refine az.mk (i+1) ?_ ⟨J,fun j hj=>?_⟩ J
     ·exact WK
     ·by_cases h:j < i
      ·exact hm j h
      ·rw[show j=i from J]; exact ak hB
   ·obtain rfl:i=S.length:=J
    rw[Be hm]
    all_goals exact Fz
def ns (L:List (List Int)) (k:Int):List Int:=if 0<=k/\k<=(L.length:Int) - 1 then nth (t:=aq) L k.toNat else []
theorem Po (s:dG) (S:List bk) (op:List Int) (L:List (List Int)) (k:Int) (hL:L.length<=1000000000):Fn prog 71 [⟨mc,(s,S,op,L)⟩,⟨.int,k⟩] false [⟨aq,ns L k⟩]:=by
 have c1:=dH k 0 ((L.length:Int) - 1)
 obtain⟨⟨a1,a2⟩,⟨b1,b2⟩,r,ob,tb⟩:=s
 unfold ns
 by_cases g:0<=k/\k<=(L.length:Int) - 1
 ·rw[aj g] at c1
  rw[if_pos g]
  refine fe func71 ntmps71 results71 fun hwf=>?_
  refine Sz ?_
  refine cw c1 ?_
  try simp (maxSteps:=9^9) only[go_sem]
  repeat refine AI ?_
  all_goals exact Ez
 ·rw[ak g] at c1
  rw[if_neg g]
  refine fe func71 ntmps71 results71 fun hwf=>?_
  refine Sz ?_
  refine cw c1 ?_
  all_goals exact Fz
def xb (g h:Int):List Int:=if og g=true/\og h=true then nth (t:=aq) [[],[1],[1,1],[-1]] ((h - g+4) % 4).toNat else []
theorem Da (g h:Int) (hg:g.natAbs<=1000) (hh:h.natAbs<=1000):Fn prog 138 [⟨.int,g⟩,⟨.int,h⟩] false [⟨aq,xb g h⟩]:=by
 have c1:=kP g
 have c2:=kP h
 unfold xb og
 by_cases e1:0<=g/\g<=3
 rotate_left
 ·rw[ak e1] at c1
  rw[if_neg (fun h=>e1 (of_decide_eq_true h.1))]
  refine fe func138 ntmps138 results138 fun hwf=>?_
  refine Sz ?_
  refine cw c1 ?_
  all_goals exact Fz
 by_cases e2:0<=h/\h<=3
 rotate_left
 ·rw[aj e1] at c1
  rw[ak e2] at c2
  rw[if_neg (fun h=>e2 (of_decide_eq_true h.2))]
  refine fe func138 ntmps138 results138 fun hwf=>?_
  refine Cz c1 ?_
  refine cw c2 ?_
  all_goals exact Fz
 rw[aj e1] at c1
 rw[aj e2] at c2
 rw[if_pos ⟨aj e1,aj e2⟩]
 have hm:((h - g+4) % 4).toNat < 4:=J
 generalize hr:nth (t:=aq) [[],[1],[1,1],[-1]] ((h - g+4) % 4).toNat=row
 have hrl:row.length<=1000:=by
  have:row ∈ ([[],[1],[1,1],[-1]]:List (List Int)):=by rw[<-hr]; exact aS (t:=aq) hm
  simp only[mem_cons,mem_nil_iff,or_false] at this
  rcases this with rfl|rfl|rfl|rfl<;>decide
 have c3:=jU row J
 refine fe func138 ntmps138 results138 fun hwf=>?_
 refine Cz c1 ?_
 refine cw c2 ?_
 refine Sz ?_
 refine fR.pos J J ?_
 refine Sz ?_
 rw[hr]
 repeat refine AI ?_
 refine cw c3 ?_
 all_goals exact Fz
def od (s:dG) (S:List bk) (op:List Int) (j k:Int):Int :=
 if ik S j < 0\/ik S k < 0 then -1 else match (List.range op.length).find? fun i=>decide (ic S (ik S j).toNat (ct (nth (t:=an) s.2.2.2.2 (ni op i).toNat))=j) && decide (ic S (ik S k).toNat (ct (nth (t:=an) s.2.2.2.2 (ni op i).toNat))=k) with
 | some i=>ni op i
 | none=>-1
theorem y5 (S:List bk) (k:Int):ik S k=-1\/∃h:Nat,ik S k=h/\h < S.length/\0<=k:=by
 unfold ik
 split
 ·exact .inl rfl
 ·split
  ·rename_i h hf
   exact .inr ⟨h,rfl,mem_range.1 (List.mem_of_find?_eq_some hf),J⟩
  ·exact .inl rfl
@[go_sem] def Hv (s:dG) (S:List bk) (op:List Int) (L:List (List Int)):List AV:=[.sc (.int .i64 s.1.1),.sc (.int .i64 s.1.2),.sc (.int .i64 s.2.1.1),.sc (.int .i64 s.2.1.2),.sl an s.2.2.1,.sl (.slice an) s.2.2.2.1,.sl an s.2.2.2.2,.sl aP S,.sl .int op,.sl aq L]
theorem HO (s:dG) (S:List bk) (op:List Int) (L:List (List Int)) (j k:Int) (hj:j<=1000000000) (hk:k<=1000000000) (hS:sV S) (hop:∀k ∈ op,0<=k/\k < (s.2.2.2.2.length:Int)) (htb:∀v ∈ s.2.2.2.2,bm v=true) (hol:op.length<=1000) (htl:s.2.2.2.2.length<=1000):Fn prog 56 [⟨mc,(s,S,op,L)⟩,⟨.int,j⟩,⟨.int,k⟩] false [⟨.int,od s S op j k⟩]:=by
 have hS4:=hS.four
 have c1:=rP s S op L j hj J hS.len
 have c2:=rP s S op L k hk J hS.len
 have r1:=fun (g:Nat) (p:DP) (hp:bj p=true) (hg:g < 4)=>zm (L:=L) (l5 s S op g p hp J J hS.len (uC hS hg p))
 unfold od
 rcases y5 S j with e1|⟨g,e1,hg,_⟩
 ·rw[e1] at c1 ⊢
  rw[if_pos (.inl ae)]
  obtain⟨⟨a1,a2⟩,⟨b1,b2⟩,r,ob,tb⟩:=s
  generalize ik S k=h at *
  refine fe func56 ntmps56 results56 fun hwf=>?_
  refine Cz c1 ?_
  refine cw c2 ?_
  all_goals exact Fz
 rcases y5 S k with e2|⟨h,e2,hh,_⟩
 ·rw[e1] at c1 ⊢
  rw[e2] at c2 ⊢
  rw[if_pos (.inr ae)]
  have d1:decide ((g:Int) < 0)=false:=ak J
  obtain⟨⟨a1,a2⟩,⟨b1,b2⟩,r,ob,tb⟩:=s
  refine fe func56 ntmps56 results56 fun hwf=>?_
  refine Cz c1 ?_
  refine cw c2 ?_
  refine Nz ?_
  exact Gz d1
 rw[e1] at c1 ⊢
 rw[e2] at c2 ⊢
 rw[if_neg J,toNat_natCast,toNat_natCast]
 have d1:decide ((g:Int) < 0)=false:=ak J
 have d2:decide ((h:Int) < 0)=false:=ak J
 have q1:=fun p hp=>r1 g p hp J
 have q2:=fun p hp=>r1 h p hp J
 generalize hR1:(fun p=>ic S g p)=R1 at *
 generalize hR2:(fun p=>ic S h p)=R2 at *
 have hR1:∀p,ic S g p=R1 p:=fun p=>congrFun hR1 p
 have hR2:∀p,ic S h p=R2 p:=fun p=>congrFun hR2 p
 simp only[hR1,hR2] at q1 q2 ⊢
 clear r1 hR1 hR2
 refine fe func56 ntmps56 results56 fun hwf=>?_
 refine Cz c1 ?_
 refine cw c2 ?_
 refine Nz ?_
 refine fy d1 d2 ?_
 refine aF.intro _ _ _ (fun i:Nat=>⟨[(1,.sc (.int .i64 j)),(2,.sc (.int .i64 k)),(3,.ptr 0 0),(7,.sc (.int .i64 (g:Int))),(8,.sc (.int .i64 (h:Int))),(25,.sl .int op),(26,.sc (.int .i64 op.length)),(27,.sc (.int .i64 i))],[(0,.box (Hv s S op L))]⟩) (fun i=>i<=op.length/\∀m,m < i->(decide (R1 (ct (nth (t:=an) s.2.2.2.2 (ni op m).toNat))=j) && decide (R2 (ct (nth (t:=an) s.2.2.2.2 (ni op m).toNat))=k))=false) (fun i=>op.length - i) 0 ?_ ⟨zero_le _,fun m hm=>absurd hm (not_lt_zero _)⟩ ?_
 ·exact WK
 ·rintro i ⟨hi,hm⟩
  refine Nz ?_
  refine ao ?_ ?_<;>intro hA
  ·have hit:i < op.length:=J
   have hv:=hop (ni op i) (by rw[cd hit]; exact getElem_mem hit)
   have c3:=dH (ni op i) 0 ((s.2.2.2.2.length:Int) - 1)
   rw[aj J] at c3
   have cp:=lZ (nth (t:=an) s.2.2.2.2 (ni op i).toNat)
   have hpk:=oz (htb _ (aU (i:=(ni op i).toNat) J))
   have hmi:=@IY op.length i (fun i=>decide (R1 (ct (nth (t:=an) s.2.2.2.2 (ni op i).toNat))=j) && decide (R2 (ct (nth (t:=an) s.2.2.2.2 (ni op i).toNat))=k)) hit
   have hmn:(decide (R1 (ct (nth (t:=an) s.2.2.2.2 (ni op i).toNat))=j) && decide (R2 (ct (nth (t:=an) s.2.2.2.2 (ni op i).toNat))=k))=false->∀m,m < i+1->(decide (R1 (ct (nth (t:=an) s.2.2.2.2 (ni op m).toNat))=j) && decide (R2 (ct (nth (t:=an) s.2.2.2.2 (ni op m).toNat))=k))=false:=fun h0 m hm2=>by
    by_cases h:m < i
    ·exact hm m h
    ·rw[show m=i from J]; exact h0
   have q3:=q1 _ hpk
   have q4:=q2 _ hpk
   generalize ct (nth (t:=an) s.2.2.2.2 (ni op i).toNat)=p at *
   by_cases g1:R1 p=j
   ·have f1:=aj g1
    by_cases g2:R2 p=k
    ·have f2:=aj g2
     rw[hmi (by rw[f1,f2]; rfl) hm]
     refine Cz c3 ?_
     refine cw (cp.sh) ?_
     refine Bz q3 ?_
     refine Tz f1 ?_
     refine cw q4 ?_
     refine Nz ?_
     exact Gz f2
    ·have f2:=ak g2
     have hm3:=hmn (by rw[f1,f2]; rfl)
     refine Cz c3 ?_
     refine cw (cp.sh) ?_
     refine Bz q3 ?_
     refine Tz f1 ?_
     refine cw q4 ?_
     refine Nz ?_
     refine Tz f2 ?_
     refine az.mk (i+1) ?_ ⟨J,hm3⟩ J
     exact WK
   ·have f1:=ak g1
    have hm3:=hmn (by rw[f1]; rfl)
    refine Cz c3 ?_
    refine cw (cp.sh) ?_
    refine Bz q3 ?_
    refine Tz f1 ?_
    refine az.mk (i+1) ?_ ⟨J,hm3⟩ J
    exact WK
  ·obtain rfl:i=op.length:=J
   rw[Be hm]
   all_goals exact Fz
def nF (w:List Int):Int:=ni w (w.length - 1)
abbrev FZ:Type:=List (List Int) × List Int
def wo (way:List Int) (s:FZ) (k:Int):FZ:=if (s.2.any fun y=>decide (k=y))=true then s else (s.1++[way++[k]],s.2++[k])
def ya (way nx:List Int) (s:FZ):Nat->FZ
 | 0=>s
 | j+1=>wo way (ya way nx s j) (ni nx j)
def im (L:List (List Int)) (frm to:Int):Nat->FZ
 | 0=>([[frm]],[frm])
 | i+1=>if i < (im L frm to i).1.length/\nF (nth (t:=aq) (im L frm to i).1 i) ≠ to then ya (nth (t:=aq) (im L frm to i).1 i) ((ns L (nF (nth (t:=aq) (im L frm to i).1 i))).mergeSort mS) (im L frm to i) (ns L (nF (nth (t:=aq) (im L frm to i).1 i))).length else im L frm to i
def C7 (L:List (List Int)) (frm to:Int) (i:Nat):Bool:=decide (i < (im L frm to i).1.length) && decide (nF (nth (t:=aq) (im L frm to i).1 i)=to)
def Cf (L:List (List Int)) (frm to:Int):List Int:=match (List.range (L.length+1)).find? (C7 L frm to) with
 | some i=>nth (t:=aq) (im L frm to i).1 i
 | none=>[]
theorem wR:∀(N:Nat) {l:List Int},l.Nodup->(∀k ∈ l,0<=k/\k < (N:Int))->l.length<=N
 | 0,[],_,_=>le_refl _
 | 0,a :: l,_,h=>by have:=h a mem_cons_self; omega
 | N+1,l,hn,h=>by
  by_cases hm:(N:Int) ∈ l
  ·have h1:=wR N (l:=l.erase (N:Int)) (hn.erase _) fun k hk=>by
    have h2:=h k (List.mem_of_mem_erase hk)
    have h3:k ≠ (N:Int):=fun e=>by rw[e] at hk; exact absurd hk hn.not_mem_erase
    omega
   rw[List.length_erase_of_mem hm] at h1
   omega
  ·have h1:=wR N hn fun k hk=>by
    have h2:=h k hk
    have h3:k ≠ (N:Int):=fun e=>hm (e ▸ hk)
    omega
   omega
theorem Kx {l m:List (List Int)} {i:Nat} (h:i < l.length):nth (t:=aq) (l++m) i=nth (t:=aq) l i:=by
 rw[aM (t:=aq) (by rw[length_append]; omega),aM (t:=aq) h,List.getElem_append_left h]
theorem VA {l:List (List Int)} {x:List Int}:nth (t:=aq) (l++[x]) l.length=x:=by
 rw[aM (t:=aq) ah,List.getElem_append_right (le_refl _)]; simp
theorem Vz (w:List Int) (k:Int):nF (w++[k])=k:=by
 unfold nF
 rw[length_append,length_singleton,Nat.add_sub_cancel]
 exact EW
structure PB (L:List (List Int)) (frm:Int) (s:FZ):Prop where
 par:s.2=s.1.map nF
 nd:s.2.Nodup
 ba:∀k ∈ s.2,0<=k/\k < (L.length:Int)
 ln:∀i,i < s.1.length->0 < (nth (t:=aq) s.1 i).length/\(nth (t:=aq) s.1 i).length<=i+1
 hd:∀w ∈ s.1,ni w 0=frm
 el:∀w ∈ s.1,∀k ∈ w,0<=k/\k < (L.length:Int)
 ch:∀w ∈ s.1,∀t,t+1 < w.length->ni w (t+1) ∈ ns L (ni w t)
variable {L:List (List Int)} {frm to:Int} {s:FZ}
theorem PB.len (h:PB L frm s):s.1.length<=L.length:=by
 have:=wR L.length h.nd h.ba
 rw[h.par,length_map] at this
 exact this
theorem PB.aaY (h:PB L frm s):s.2.length=s.1.length:=by rw[h.par,length_map]
theorem PB.start (hf:0<=frm/\frm < (L.length:Int)):PB L frm ([[frm]],[frm]):=by
 refine⟨rfl,nodup_cons.2 ⟨(fun h=>by cases h),nodup_nil⟩,fun k hk=>by rw[mem_singleton.1 hk]; exact hf,fun i hi=>?_,fun w hw=>by rw[mem_singleton.1 hw]; rfl,fun w hw k hk=>?_,fun w hw t ht=>?_⟩
 ·have hi:i < 1:=hi
  obtain rfl:i=0:=J
  exact⟨Nat.one_pos,le_refl _⟩
 ·rw[mem_singleton.1 hw] at hk
  rw[mem_singleton.1 hk]; exact hf
 ·rw[mem_singleton.1 hw] at ht
  exact absurd ht ah
theorem PB.wo {i:Nat} {k:Int} (h:PB L frm s) (hi:i < s.1.length) (hk:0<=k/\k < (L.length:Int)) (hl:k ∈ ns L (nF (nth (t:=aq) s.1 i))):PB L frm (wo (nth (t:=aq) s.1 i) s k):=by
 unfold DW.wo
 split
 ·exact h
 ·rename_i hn
  have hn:k ∉ s.2:=fun hm=>hn (G8.2 hm)
  obtain⟨l1,l2⟩:=h.ln i hi
  have hwi:=aS (t:=aq) hi
  refine⟨?_,?_,fun q hq=>?_,fun j hj=>?_,fun w hw=>?_,fun w hw q hq=>?_,fun w hw t ht=>?_⟩
  ·show s.2++[k]=(s.1++[nth (t:=aq) s.1 i++[k]]).map nF
   rw[map_append,<-h.par,List.map_singleton,Vz]
  ·show (s.2++[k]).Nodup
   rw[List.nodup_append]
   refine⟨h.nd,nodup_cons.2 ⟨(fun h=>by cases h),nodup_nil⟩,fun a ha b hb e=>?_⟩
   rw[mem_singleton.1 hb] at e
   exact hn (e ▸ ha)
  ·rcases mem_append.1 hq with hq|hq
   ·exact h.ba q hq
   ·rw[mem_singleton.1 hq]; exact hk
  ·have hj:j < (s.1++[nth (t:=aq) s.1 i++[k]]).length:=hj
   rw[length_append,length_singleton] at hj
   show 0 < (nth (t:=aq) (s.1++[nth (t:=aq) s.1 i++[k]]) j).length/\(nth (t:=aq) (s.1++[nth (t:=aq) s.1 i++[k]]) j).length<=j+1
   by_cases e:j < s.1.length
   ·rw[Kx e]; exact h.ln j e
   ·obtain rfl:j=s.1.length:=J
    rw[VA,length_append,length_singleton]
    omega
  ·rcases mem_append.1 hw with hw|hw
   ·exact h.hd w hw
   ·rw[mem_singleton.1 hw,qQ l1]
    exact h.hd _ hwi
  ·rcases mem_append.1 hw with hw|hw
   ·exact h.el w hw q hq
   ·rw[mem_singleton.1 hw] at hq
    rcases mem_append.1 hq with hq|hq
    ·exact h.el _ hwi q hq
    ·rw[mem_singleton.1 hq]; exact hk
  ·rcases mem_append.1 hw with hw|hw
   ·exact h.ch w hw t ht
   ·rw[mem_singleton.1 hw] at ht ⊢
    rw[length_append,length_singleton] at ht
    by_cases e:t+1 < (nth (t:=aq) s.1 i).length
    ·rw[qQ e,qQ J]
     exact h.ch _ hwi t e
    ·have et:t+1=(nth (t:=aq) s.1 i).length:=J
     rw[et,EW,qQ J]
     rw[show t=(nth (t:=aq) s.1 i).length - 1 from J]
     exact hl
theorem Zq (way:List Int) (s:FZ) (k:Int):s.1 <+: (wo way s k).1:=by
 unfold wo
 split
 ·exact prefix_refl _
 ·exact List.prefix_append _ _
theorem VF {l m:List (List Int)} {i:Nat} (h:l <+: m) (hi:i < l.length):nth (t:=aq) m i=nth (t:=aq) l i:=by
 obtain⟨t,rfl⟩:=h
 exact Kx hi
theorem IP {i:Nat} {nx:List Int} (h:PB L frm s) (hi:i < s.1.length) (hk:∀k ∈ nx,0<=k/\k < (L.length:Int)) (hl:∀k ∈ nx,k ∈ ns L (nF (nth (t:=aq) s.1 i))):∀j,j<=nx.length->PB L frm (ya (nth (t:=aq) s.1 i) nx s j)/\s.1 <+: (ya (nth (t:=aq) s.1 i) nx s j).1
 | 0,_=>⟨h,prefix_refl _⟩
 | j+1,hj=>by
  obtain⟨h1,h2⟩:=IP h hi hk hl j J
  have hm:=jM (show j < nx.length from J)
  have e:=VF h2 hi
  have:=h1.wo (i:=i) (k:=ni nx j) (Nat.lt_of_lt_of_le hi h2.length_le) (hk _ hm) (by rw[e]; exact hl _ hm)
  rw[e] at this
  exact⟨this,h2.trans (Zq _ _ _)⟩
theorem IV (hf:0<=frm/\frm < (L.length:Int)) (hL:∀l ∈ L,∀k ∈ l,0<=k/\k < (L.length:Int)):∀i,PB L frm (im L frm to i)
 | 0=>PB.start hf
 | i+1=>by
  have h:=IV hf hL i
  rw[im]
  split
  ·rename_i hc
   have hm:∀k ∈ (ns L (nF (nth (t:=aq) (im L frm to i).1 i))).mergeSort mS,k ∈ ns L (nF (nth (t:=aq) (im L frm to i).1 i)):=fun k hk=>(mergeSort_perm _ _).mem_iff.1 hk
   refine (IP h hc.1 (fun k hk=>?_) hm _ (by rw[length_mergeSort]; exact le_refl _)).1
   have hk:=hm k hk
   unfold ns at hk
   split at hk
   ·rename_i h2
    exact hL _ (aS (t:=aq) J) k hk
   ·cases hk
  ·exact h
end DW
end Go.Proofs.YtkaclgdhlpphhaaGreat
end
