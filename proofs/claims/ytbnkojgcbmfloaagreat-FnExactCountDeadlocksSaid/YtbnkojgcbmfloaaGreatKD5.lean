/-
  Texts of a proof, one behind another: Hv2, Hv3, ArIn, Dw25, Dw45, Same, Dw26, Dw27, Dw46, Dw47, Hs1, Dw55, Dw48, Dw49, Dw50, Dw51, Dw52, Dw53, Dw54, Dw56, Dw57.
-/
import Derived.Test.YtbnkojgcbmfloaaGreatKD4
set_option linter.all false
set_option maxRecDepth 100000
namespace Go.Proofs.YtbnkojgcbmfloaaGreat.DW
open Go.RowKit
def ngV (v:DV):DV:=(-v.1,-v.2)
theorem ngV_ngV (v:DV):ngV (ngV v)=v:=by unfold ngV; simp
theorem trn_ng (a b c:DV):trn (ngV a) (ngV b) (ngV c)=trn a b c:=by unfold trn ngV; grind
theorem ltV_ng {a b:DV}:ltV (ngV a) (ngV b) ↔ ltV b a:=by unfold ltV ngV; simp only; omega
theorem popD_ng (v:DV):∀ r:List DV,popD (ngV v) (r.map ngV)=(popD v r).map ngV
 | []=>rfl
 | [a]=>rfl
 | b :: a :: l=>by
  have ih:=popD_ng v (a :: l)
  simp only [List.map_cons] at ih ⊢
  rw [popD,popD,trn_ng]
  split
  ·exact ih
  ·rfl
theorem chR_ng (l:List DV):chR (l.map ngV)=(chR l).map ngV:=by
 unfold chR
 have:∀ (l s:List DV),(l.map ngV).foldl (fun c v=>v :: popD v c) (s.map ngV)=(l.foldl (fun c v=>v :: popD v c) s).map ngV:=by
  intro l
  induction l with
  | nil=>intro s; rfl
  | cons a l ih =>
   intro s
   rw [List.map_cons,List.foldl_cons,List.foldl_cons,popD_ng]
   exact ih (a :: popD a s)
 exact this l []
def ngE (e:DV × DV):DV × DV:=(ngV e.1,ngV e.2)
theorem edg_ng:∀ r:List DV,edg (r.map ngV)=(edg r).map ngE
 | []=>rfl
 | [a]=>rfl
 | b :: a :: l=>by
  have ih:=edg_ng (a :: l)
  simp only [List.map_cons] at ih ⊢
  rw [edg_cons,edg_cons,ih]; rfl
theorem edg_ng_mem {r:List DV} {e:DV × DV} (h:e ∈ edg r):ngE e ∈ edg (r.map ngV):=by rw [edg_ng]; exact List.mem_map_of_mem h
theorem map_ng_ng (r:List DV):(r.map ngV).map ngV=r:=by
 rw [List.map_map,show (ngV ∘ ngV)=id from funext ngV_ngV,List.map_id]
theorem inner_of {P:DV->Prop} {x:DV}:∀ {r:List DV},ChOK P r->x ∈ r->r.head? = some x\/r.getLast? = some x\/∃ p q,(p,x) ∈ edg r/\(x,q) ∈ edg r/\0 < crs (sbV x p) (sbV q x)
 | [],_,h=>by simp at h
 | [a],_,h=>by simp at h; subst h; exact .inl rfl
 | q :: y :: l,hc,h=>by
  rcases List.mem_cons.1 h with rfl|h
  ·exact .inl rfl
  ·rcases inner_of hc.tail h with h1|h1|⟨p,q',h1,h2,h3⟩
   ·simp at h1
    subst h1
    cases l with
    | nil=>exact .inr (.inl rfl)
    | cons p l =>
     have hcv:=hc.cvx
     rw [edg_cons,edg_cons] at hcv
     refine .inr (.inr ⟨p,q,by rw [edg_cons,edg_cons]; simp,by rw [edg_cons]; simp,?_⟩)
     exact (List.pairwise_cons.1 hcv).1 (p,y) (by simp)
   ·exact .inr (.inl (by rw [List.getLast?_cons_cons]; exact h1))
   ·exact .inr (.inr ⟨p,q',by rw [edg_cons]; exact List.mem_cons_of_mem _ h1,by rw [edg_cons]; exact List.mem_cons_of_mem _ h2,h3⟩)
theorem cross_str {P:DV->Prop} {R R':List DV} (h:ChOK P R) (h':ChOK (fun p=>P (ngV p)) (R'.map ngV)) {x:DV} (hx:x ∈ R') :
  R'.head? = some x\/R'.getLast? = some x\/∀ e ∈ edg R,0 < trn e.1 e.2 x:=by
 have hx':ngV x ∈ R'.map ngV:=List.mem_map_of_mem hx
 have inj:∀ {a b:DV},ngV a=ngV b->a=b:=fun {a b} e=>by rw [<-ngV_ngV a,e,ngV_ngV]
 rcases inner_of h' hx' with h1|h1|⟨p,q,h1,h2,h3⟩
 ·rw [List.head?_map] at h1
  obtain ⟨a,ha,e⟩:=Option.map_eq_some_iff.1 h1
  exact .inl (by rw [ha,inj e])
 ·rw [List.getLast?_map] at h1
  obtain ⟨a,ha,e⟩:=Option.map_eq_some_iff.1 h1
  exact .inr (.inl (by rw [ha,inj e]))
 ·refine .inr (.inr fun e he=>?_)
  have hPp:P (ngV p):=h'.sub p (edg_mem h1).1
  have hPq:P (ngV q):=h'.sub q (edg_mem h2).2
  have hPx:P x:=by have:=h'.sub _ hx'; rw [ngV_ngV] at this; exact this
  have l1:=h.low e he _ hPp
  have l2:=h.low e he _ hPq
  have l3:=h.low e he _ hPx
  by_cases hz:trn e.1 e.2 x=0
  ·exfalso
   have hd:=Rt_of (edg_lt h.desc he)
   have ha:=Rt_of (edg_lt h'.desc h1)
   have hb:=Rt_of (edg_lt h'.desc h2)
   rw [trn_add e.1 e.2 x,hz] at l1 l2
   have e1:crs (sbV e.2 e.1) (sbV (ngV p) x)=crs (sbV e.2 e.1) (sbV (ngV x) p):=by unfold crs sbV ngV; grind
   have e2:crs (sbV e.2 e.1) (sbV (ngV q) x)=crs (sbV q (ngV x)) (sbV e.2 e.1):=by unfold crs sbV ngV; grind
   rw [e1] at l1
   rw [e2] at l2
   have:=crs_pn ha hb hd h3 (by show 0<=crs (sbV q (ngV x)) (sbV e.2 e.1); omega)
   rw [crs_sw] at this
   simp only at this
   omega
  ·omega
theorem edg_idx:∀ {r:List DV} {i:Nat},i+1 < r.length->(nth (t:=tVec) r (i+1),nth (t:=tVec) r i) ∈ edg r
 | [],i,h=>by simp at h
 | [a],i,h=>by simp at h
 | b :: a :: l,0,h=>by rw [edg_cons]; exact List.mem_cons_self
 | b :: a :: l,i+1,h=>by
  rw [edg_cons]
  refine List.mem_cons_of_mem _ ?_
  have:=edg_idx (r:=a :: l) (i:=i) (by simp at h ⊢; omega)
  simpa [nth] using this
theorem nth_rev {r:List DV} {i:Nat} (h:i < r.length):nth (t:=tVec) r.reverse i=nth (t:=tVec) r (r.length - 1 - i):=by
 rw [nth_lt (by rw [List.length_reverse]; exact h),nth_lt (by omega),List.getElem_reverse]
theorem nth_dl {r:List DV} {i:Nat} (h:i < r.length - 1):nth (t:=tVec) r.dropLast i=nth (t:=tVec) r i:=by
 rw [nth_lt (by rw [List.length_dropLast]; exact h),nth_lt (by omega),List.getElem_dropLast]
theorem nth_al {l m:List DV} {i:Nat} (h:i < l.length):nth (t:=tVec) (l++m) i=nth (t:=tVec) l i:=by
 rw [nth_lt (by rw [List.length_append]; omega),nth_lt h,List.getElem_append_left h]
theorem nth_ar {l m:List DV} {i:Nat} (h:l.length<=i) (h2:i < l.length+m.length):nth (t:=tVec) (l++m) i=nth (t:=tVec) m (i - l.length):=by
 rw [nth_lt (by rw [List.length_append]; omega),nth_lt (by omega),List.getElem_append_right h]
structure Cvx (P:DV->Prop) (H:List DV):Prop where
 three:3<=H.length
 nodup:H.Nodup
 str:∀ i,i < H.length->∀ x ∈ H,x=nth (t:=tVec) H i\/x=nth (t:=tVec) H (nxt H.length i).toNat\/0 < trn (nth (t:=tVec) H i) (nth (t:=tVec) H (nxt H.length i).toNat) x
 low:∀ i,i < H.length->∀ p,P p->0<=trn (nth (t:=tVec) H i) (nth (t:=tVec) H (nxt H.length i).toNat) p
 sub:∀ x ∈ H,P x
theorem nxt_lt {n i:Nat} (h:i+1 < n):(nxt n i).toNat=i+1:=by
 unfold nxt
 rw [Int.emod_eq_of_lt (by omega) (by omega)]; omega
theorem nxt_end {n i:Nat} (h:i+1=n):(nxt n i).toNat=0:=by
 unfold nxt
 rw [show ((i:Int)+1)=(n:Int) by omega,Int.emod_self]; rfl
theorem col0 {d u v:DV} (hd:d ≠ (0,0)) (h1:crs d u=0) (h2:crs d v=0):crs u v=0:=by
 have k1:d.1 * crs u v=u.1 * crs d v - v.1 * crs d u:=by unfold crs; grind
 have k2:d.2 * crs u v=u.2 * crs d v - v.2 * crs d u:=by unfold crs; grind
 rw [h1,h2,Int.mul_zero,Int.mul_zero,Int.sub_zero] at k1 k2
 rcases Int.mul_eq_zero.1 k1 with h|h
 ·rcases Int.mul_eq_zero.1 k2 with h'|h'
  ·exact absurd (Prod.ext h h') hd
  ·exact h'
 ·exact h
theorem nth_ap2 {l m:List DV} {x:DV} (k:Nat) (h:k=l.length):nth (t:=tVec) (l++x :: m) k=x:=by
 subst h
 rw [nth_lt (by simp),List.getElem_append_right (Nat.le_refl _)]
 simp
theorem nth_last {r:List DV} {x:DV} (h:r.getLast? = some x):nth (t:=tVec) r (r.length - 1)=x:=by
 obtain ⟨ys,rfl⟩:=List.getLast?_eq_some_iff.1 h
 rw [show (ys++[x]).length - 1=ys.length by simp]
 exact nth_ap2 _ rfl
theorem nth_head {r:List DV} {x:DV} (h:r.head? = some x):nth (t:=tVec) r 0=x:=by
 cases r with
 | nil=>simp at h
 | cons a r=>simp at h; exact h
theorem two_cvx {S R R':List DV} {m M:DV} (hm:m ∈ S) (hM:M ∈ S) (hmM:ltV m M) (hR:ChOK (fun p=>p ∈ S) R) (hR':ChOK (fun p=>ngV p ∈ S) (R'.map ngV)) (hh:R.head? = some M) (hl:R.getLast? = some m) (hh':R'.head? = some m) (hl':R'.getLast? = some M)
  (hn:∃ a ∈ S,∃ b ∈ S,∃ c ∈ S,trn a b c ≠ 0):Cvx (fun p=>p ∈ S) (R.reverse.dropLast++R'.reverse.dropLast):=by
 have inj:∀ {a b:DV},ngV a=ngV b->a=b:=fun {a b} e=>by rw [<-ngV_ngV a,e,ngV_ngV]
 have hne:m ≠ M:=fun h=>by subst h; exact ltV_irrefl _ hmM
 have k1:2<=R.length:=by
  match R,hh,hl with
  | [a],h1,h2=>simp at h1 h2; exact absurd (h2.symm.trans h1) hne
  | _ :: _ :: _,_,_=>simp
 have k2:2<=R'.length:=by
  match R',hh',hl' with
  | [a],h1,h2=>simp at h1 h2; exact absurd (h1.symm.trans h2) hne
  | _ :: _ :: _,_,_=>simp
 have mR:m ∈ R:=List.mem_of_getLast? hl
 have MR:M ∈ R:=List.mem_of_head? hh
 have mR':m ∈ R':=List.mem_of_head? hh'
 have MR':M ∈ R':=List.mem_of_getLast? hl'
 have hR2:ChOK (fun p=>ngV (ngV p) ∈ S) ((R.map ngV).map ngV):=by rw [map_ng_ng]; simpa [ngV_ngV] using hR
 have bnd:∀ e,(e ∈ edg R\/e ∈ edg R')->(∀ p ∈ S,0<=trn e.1 e.2 p)/\∀ x,(x ∈ R\/x ∈ R')->x=e.1\/x=e.2\/0 < trn e.1 e.2 x:=by
  rintro e (he|he)
  ·refine ⟨hR.low e he,fun x hx=>?_⟩
   rcases hx with hx|hx
   ·exact hR.str e he x hx
   ·rcases cross_str hR hR' hx with h|h|h
    ·rw [hh'] at h; injection h with h; subst h; exact hR.str e he m mR
    ·rw [hl'] at h; injection h with h; subst h; exact hR.str e he M MR
    ·exact .inr (.inr (h e he))
  ·have he':=edg_ng_mem he
   have key:∀ x,ngV x ∈ R'.map ngV->x=e.1\/x=e.2\/0 < trn e.1 e.2 x:=by
    intro x hx
    rcases hR'.str _ he' _ hx with h|h|h
    ·exact .inl (inj h)
    ·exact .inr (.inl (inj h))
    ·exact .inr (.inr (by rw [<-trn_ng]; exact h))
   refine ⟨fun p hp=>?_,fun x hx=>?_⟩
   ·have:=hR'.low _ he' (ngV p) (by rw [ngV_ngV]; exact hp)
    rw [<-trn_ng]; exact this
   ·rcases hx with hx|hx
    ·rcases cross_str hR' hR2 (List.mem_map_of_mem hx) with h|h|h
     ·rw [List.head?_map,hh] at h; injection h with h; rw [<-inj h]; exact key M (List.mem_map_of_mem MR')
     ·rw [List.getLast?_map,hl] at h; injection h with h; rw [<-inj h]; exact key m (List.mem_map_of_mem mR')
     ·exact .inr (.inr (by rw [<-trn_ng]; exact h _ he'))
    ·exact key x (List.mem_map_of_mem hx)
 have lL:R.reverse.length=R.length:=List.length_reverse
 have lU:R'.reverse.length=R'.length:=List.length_reverse
 have lLd:R.reverse.dropLast.length=R.length - 1:=by rw [List.length_dropLast,lL]
 have lUd:R'.reverse.dropLast.length=R'.length - 1:=by rw [List.length_dropLast,lU]
 have hH:(R.reverse.dropLast++R'.reverse.dropLast).length=(R.length - 1)+(R'.length - 1):=by rw [List.length_append,lLd,lUd]
 have iL:∀ i,i < R.length - 1->nth (t:=tVec) (R.reverse.dropLast++R'.reverse.dropLast) i=nth (t:=tVec) R (R.length - 1 - i):=fun i hi=>by
  rw [nth_al (by omega),nth_dl (by omega),nth_rev (by omega)]
 have iU:∀ j,j < R'.length - 1->nth (t:=tVec) (R.reverse.dropLast++R'.reverse.dropLast) (R.length - 1+j)=nth (t:=tVec) R' (R'.length - 1 - j):=fun j hj=>by
  rw [nth_ar (by omega) (by omega),lLd,show R.length - 1+j - (R.length - 1)=j by omega,nth_dl (by omega),nth_rev (by omega)]
 have r0:=nth_head hh
 have r1:=nth_last hl
 have s0:=nth_head hh'
 have s1:=nth_last hl'
 have iedg:∀ i,i < (R.length - 1)+(R'.length - 1)->(nth (t:=tVec) (R.reverse.dropLast++R'.reverse.dropLast) i,nth (t:=tVec) (R.reverse.dropLast++R'.reverse.dropLast) (nxt ((R.length - 1)+(R'.length - 1)) i).toNat) ∈ edg R\/(nth (t:=tVec) (R.reverse.dropLast++R'.reverse.dropLast) i,nth (t:=tVec) (R.reverse.dropLast++R'.reverse.dropLast) (nxt ((R.length - 1)+(R'.length - 1)) i).toNat) ∈ edg R':=by
  intro i hi
  by_cases h:i < R.length - 1
  ·left
   have e:=edg_idx (r:=R) (i:=R.length - 2 - i) (by omega)
   rw [nxt_lt (by omega),iL i h]
   have h2:nth (t:=tVec) (R.reverse.dropLast++R'.reverse.dropLast) (i+1)=nth (t:=tVec) R (R.length - 2 - i):=by
    by_cases h3:i+1 < R.length - 1
    ·rw [iL _ h3]; congr 1; omega
    ·rw [show i+1=R.length - 1+0 by omega,iU 0 (by omega),show R'.length - 1 - 0=R'.length - 1 by omega,s1,show R.length - 2 - i=0 by omega,r0]
   rw [h2,show R.length - 1 - i=R.length - 2 - i+1 by omega]
   exact e
  ·right
   obtain ⟨j,rfl⟩:∃ j,i=R.length - 1+j:=⟨i - (R.length - 1),by omega⟩
   have e:=edg_idx (r:=R') (i:=R'.length - 2 - j) (by omega)
   rw [iU j (by omega)]
   have h2:nth (t:=tVec) (R.reverse.dropLast++R'.reverse.dropLast) (nxt ((R.length - 1)+(R'.length - 1)) (R.length - 1+j)).toNat=nth (t:=tVec) R' (R'.length - 2 - j):=by
    by_cases h3:j+1 < R'.length - 1
    ·rw [nxt_lt (by omega),show R.length - 1+j+1=R.length - 1+(j+1) by omega,iU _ h3]; congr 1; omega
    ·rw [nxt_end (by omega),iL 0 (by omega),show R.length - 1 - 0=R.length - 1 by omega,r1,show R'.length - 2 - j=0 by omega,s0]
   rw [h2,show R'.length - 1 - j=R'.length - 2 - j+1 by omega]
   exact e
 have inH:∀ x,x ∈ R.reverse.dropLast++R'.reverse.dropLast->x ∈ R\/x ∈ R':=by
  intro x hx
  rcases List.mem_append.1 hx with h|h
  ·exact .inl (List.mem_reverse.1 (List.dropLast_subset _ h))
  ·exact .inr (List.mem_reverse.1 (List.dropLast_subset _ h))
 have subS:∀ x,(x ∈ R\/x ∈ R')->x ∈ S:=by
  rintro x (h|h)
  ·exact hR.sub x h
  ·have:=hR'.sub _ (List.mem_map_of_mem h); rw [ngV_ngV] at this; exact this
 have dL:R.reverse.Pairwise ltV:=List.pairwise_reverse.2 hR.desc
 have dU:R'.reverse.Pairwise (fun a b=>ltV b a):=by
  have:=hR'.desc
  rw [List.pairwise_map] at this
  exact List.pairwise_reverse.2 (this.imp fun {a b} h=>ltV_ng.1 h)
 have spL:R.reverse=R.reverse.dropLast++[M]:=by
  have:R.reverse.getLast? = some M:=by rw [List.getLast?_reverse]; exact hh
  obtain ⟨ys,hy⟩:=List.getLast?_eq_some_iff.1 this
  rw [hy]; simp
 have spU:R'.reverse=R'.reverse.dropLast++[m]:=by
  have:R'.reverse.getLast? = some m:=by rw [List.getLast?_reverse]; exact hh'
  obtain ⟨ys,hy⟩:=List.getLast?_eq_some_iff.1 this
  rw [hy]; simp
 have ltM:∀ x ∈ R.reverse.dropLast,ltV x M:=fun x hx=>by
  rw [spL] at dL
  exact (List.pairwise_append.1 dL).2.2 x hx M (by simp)
 have gtm:∀ x ∈ R'.reverse.dropLast,ltV m x:=fun x hx=>by
  rw [spU] at dU
  exact (List.pairwise_append.1 dU).2.2 x hx m (by simp)
 refine ⟨?_,?_,?_,?_,fun x hx=>subS x (inH x hx)⟩
 ·rw [hH]
  by_cases h:3<=R.length - 1+(R'.length - 1)
  ·exact h
  ·exfalso
   have h1:R.length=2:=by omega
   have h2:R'.length=2:=by omega
   have e1:=edg_idx (r:=R) (i:=0) (by omega)
   have e2:=edg_idx (r:=R') (i:=0) (by omega)
   rw [show 0+1=R.length - 1 by omega,r1,r0] at e1
   rw [show 0+1=R'.length - 1 by omega,s1,s0] at e2
   have z:∀ p ∈ S,crs (sbV M m) (sbV p m)=0:=fun p hp=>by
    have p1:=(bnd _ (.inl e1)).1 p hp
    have p2:=(bnd _ (.inr e2)).1 p hp
    have:trn M m p=- trn m M p:=by unfold trn; grind
    simp only at p1 p2
    rw [this] at p2
    rw [<-trn_crs]
    omega
   obtain ⟨a,ha,b,hb,c,hc,hne2⟩:=hn
   refine hne2 ?_
   rw [trn_crs]
   refine col0 (d:=sbV M m) (fun h=>?_) ?_ ?_
   ·have q1:=congrArg Prod.fst h
    have q2:=congrArg Prod.snd h
    unfold sbV at q1 q2
    simp only at q1 q2
    exact hne (Prod.ext (by omega) (by omega))
   ·have:crs (sbV M m) (sbV b a)=crs (sbV M m) (sbV b m) - crs (sbV M m) (sbV a m):=by unfold crs sbV; grind
    rw [this,z b hb,z a ha]; rfl
   ·have:crs (sbV M m) (sbV c a)=crs (sbV M m) (sbV c m) - crs (sbV M m) (sbV a m):=by unfold crs sbV; grind
    rw [this,z c hc,z a ha]; rfl
 ·rw [List.nodup_append]
  refine ⟨?_,?_,?_⟩
  ·exact (dL.sublist (List.dropLast_sublist _)).imp fun {a b} h e=>by subst e; exact ltV_irrefl _ h
  ·exact (dU.sublist (List.dropLast_sublist _)).imp fun {a b} h e=>by subst e; exact ltV_irrefl _ h
  ·rintro x hx y hy rfl
   have q1:=ltM x hx
   have q2:=gtm x hy
   have hxR':x ∈ R':=List.mem_reverse.1 (List.dropLast_subset _ hy)
   rcases cross_str hR hR' hxR' with h|h|h
   ·rw [hh'] at h; injection h with h; subst h; exact ltV_irrefl _ q2
   ·rw [hl'] at h; injection h with h; subst h; exact ltV_irrefl _ q1
   ·obtain ⟨i,hi,rfl⟩:=List.getElem_of_mem hx
    have hi2:i < R.length - 1:=by omega
    have e:=edg_idx (r:=R) (i:=R.length - 2 - i) (by omega)
    have e2:R.reverse.dropLast[i]=nth (t:=tVec) R (R.length - 2 - i+1):=by
     rw [<-nth_lt (t:=tVec) hi,nth_dl (by omega),nth_rev (by omega)]; congr 1; omega
    have:=h _ e
    rw [e2] at this
    simp only at this
    rw [trn_aa] at this
    omega
 ·intro i hi x hx
  rw [hH] at hi ⊢
  exact (bnd _ (iedg i hi)).2 x (inH x hx)
 ·intro i hi p hp
  rw [hH] at hi ⊢
  exact (bnd _ (iedg i hi)).1 p hp
theorem hull_cvx {S:List DV} (hs:S.Pairwise ltV) (hn:∃ a ∈ S,∃ b ∈ S,∃ c ∈ S,trn a b c ≠ 0):Cvx (fun p=>p ∈ S) (chD S++chD S.reverse):=by
 have hn':=hn
 obtain ⟨a,ha,b,hb,c,hc,hne⟩:=hn'
 obtain ⟨n,hnl⟩:∃ n,S.length=n+1:=⟨S.length - 1,by have:=List.length_pos_of_mem ha; omega⟩
 obtain ⟨t,r,e1,e2,e3,hR⟩:=chR_ok n hnl hs
 have hsr:(S.reverse.map ngV).Pairwise ltV:=by
  rw [List.pairwise_map,List.pairwise_reverse]
  exact hs.imp fun {a b} h=>ltV_ng.2 h
 obtain ⟨t',r',f1,f2,f3,hR0⟩:=chR_ok n (l:=S.reverse.map ngV) (by rw [List.length_map,List.length_reverse]; exact hnl) hsr
 rw [chR_ng] at f1 f2 hR0
 have hR':ChOK (fun p=>(ngV p) ∈ S) ((chR S.reverse).map ngV):=by
  refine ⟨hR0.desc,hR0.cvx,fun e he p hp=>hR0.low e he p ?_,hR0.str,fun x hx=>?_⟩
  ·rw [show p=ngV (ngV p) from (ngV_ngV p).symm]
   exact List.mem_map_of_mem (List.mem_reverse.2 hp)
  ·obtain ⟨y,hy,rfl⟩:=List.mem_map.1 (hR0.sub x hx)
   rw [ngV_ngV]
   exact List.mem_reverse.1 hy
 have injO:∀ {a b:Option DV},a.map ngV=b.map ngV->a=b:=by
  intro a b h
  have:=congrArg (Option.map ngV) h
  simpa [Option.map_map,show (ngV ∘ ngV)=id from funext ngV_ngV] using this
 have g2:(chR S.reverse).getLast? = S.getLast?:=by
  rw [List.getLast?_map,List.head?_map] at f2
  rw [injO f2,List.head?_reverse]
 have g3:(chR S.reverse).head? = S.head?:=by
  have h1:((chR S.reverse).map ngV).head? = some t':=by rw [f1]; rfl
  rw [<-f3,List.head?_map,List.getLast?_map,List.getLast?_reverse] at h1
  exact injO h1
 have g1:(chR S).head? = S.getLast?:=by rw [e1,e3]; rfl
 obtain ⟨m,S',rfl⟩:∃ m S',S=m :: S':=by
  cases S with
  | nil=>simp at ha
  | cons m S'=>exact ⟨m,S',rfl⟩
 obtain ⟨M,hM1,hM2⟩:∃ M,(m :: S').getLast? = some M/\M ∈ S':=by
  cases S' with
  | nil =>
   simp at ha hb hc
   subst ha hb hc
   exact absurd (trn_aa _ _) hne
  | cons x S'=>exact ⟨(x :: S').getLast (by simp),by rw [List.getLast?_cons_cons,List.getLast?_eq_some_getLast],List.getLast_mem _⟩
 exact two_cvx (m:=m) (M:=M) (by simp) (List.mem_cons_of_mem _ hM2) ((List.pairwise_cons.1 hs).1 M hM2) hR hR' (g1.trans hM1) e2 g3 (g2.trans hM1) hn
theorem len_le_of_lt:∀ (N:Nat) (l:List Nat),l.Nodup->(∀ x ∈ l,x < N)->l.length<=N
 | 0,l,_,h=>by
  cases l with
  | nil=>simp
  | cons a l=>exact absurd (h a (by simp)) (by omega)
 | N+1,l,hd,h=>by
  by_cases hm:N ∈ l
  ·have h1:=List.length_erase_of_mem hm
   have h2:=len_le_of_lt N (l.erase N) (hd.erase N) fun x hx=>by
    have h3:=h x (List.mem_of_mem_erase hx)
    have h4:x ≠ N:=fun e=>by subst e; exact hd.not_mem_erase hx
    omega
   omega
  ·have:=len_le_of_lt N l hd fun x hx=>by
    have h3:=h x hx
    have h4:x ≠ N:=fun e=>by subst e; exact hm hx
    omega
   omega
theorem pigeon {n N:Nat} {R:Nat->Nat->Prop} (h:∀ i,i < n->∃ c,c < N/\R i c) (inj:∀ i j c,i < n->j < n->R i c->R j c->i=j):n<=N:=by
 have hf:∃ f:Nat->Nat,∀ i,i < n->f i < N/\R i (f i):=by
  refine ⟨fun i=>if hi:i < n then Classical.choose (h i hi) else 0,fun i hi=>?_⟩
  simp only [hi,dif_pos]
  exact Classical.choose_spec (h i hi)
 obtain ⟨f,hf⟩:=hf
 have h1:=len_le_of_lt N ((List.range n).map f) (by
  rw [List.nodup_iff_pairwise_ne,List.pairwise_map]
  have hr:(List.range n).Pairwise (fun a b=>a < b):=List.pairwise_lt_range
  refine (List.pairwise_iff_getElem.2 fun i j hi hj hij=>?_)
  simp only [List.length_range] at hi hj
  simp only [List.getElem_range]
  intro e
  have:=inj i j (f i) hi hj (hf i hi).2 (by rw [e]; exact (hf j hj).2)
  omega) (by
  intro x hx
  obtain ⟨i,hi,rfl⟩:=List.mem_map.1 hx
  exact (hf i (List.mem_range.1 hi)).1)
 simpa using h1
theorem sq_nn (a:Int):0<=a * a:=by
 rcases Int.le_total 0 a with h|h
 ·exact Int.mul_nonneg h h
 ·exact Int.mul_nonneg_of_nonpos_of_nonpos h h
theorem nd_inj {l:List DV} (h:l.Nodup) {i j:Nat} (hi:i < l.length) (hj:j < l.length) (e:l[i]=l[j]):i=j:=by
 rw [List.nodup_iff_pairwise_ne] at h
 rcases Nat.lt_trichotomy i j with h1|h1|h1
 ·exact absurd e (List.pairwise_iff_getElem.1 h i j hi hj h1)
 ·exact h1
 ·exact absurd e.symm (List.pairwise_iff_getElem.1 h j i hj hi h1)
theorem sb_ne {a b:DV} (h:a ≠ b):sbV a b ≠ (0,0):=by
 intro e
 unfold sbV at e
 have q1:=congrArg Prod.fst e
 have q2:=congrArg Prod.snd e
 simp only at q1 q2
 exact h (Prod.ext (by omega) (by omega))
theorem dt_pos {d:DV} (h:d ≠ (0,0)):0 < dt d d:=by
 unfold dt
 have h1:=sq_nn d.1
 have h2:=sq_nn d.2
 by_cases e1:d.1=0
 ·by_cases e2:d.2=0
  ·exact absurd (Prod.ext e1 e2) h
  ·have:d.2 * d.2 ≠ 0:=fun h=>(Int.mul_eq_zero.1 h).elim e2 e2
   omega
 ·have:d.1 * d.1 ≠ 0:=fun h=>(Int.mul_eq_zero.1 h).elim e1 e1
  omega
theorem pos_of_mul {a b c:Int} (h:a * b=c) (hb:0 < b) (hc:0<=c):0<=a:=by
 by_cases ha:0<=a
 ·exact ha
 ·have:=Int.mul_neg_of_neg_of_pos (show a < 0 by omega) hb
  omega
theorem pos_of_mul' {a b c:Int} (h:a * b=c) (hb:0 < b) (hc:0 < c):0 < a:=by
 have:=pos_of_mul h hb (Int.le_of_lt hc)
 by_cases ha:a=0
 ·subst ha; omega
 ·omega
theorem same_dir {d E c:DV} (hd:d ≠ (0,0)) (h0:crs d E=0) (h1:0 < crs E c) (h2:0<=crs d c):0 < dt d E:=by
 have hE:E ≠ (0,0):=fun h=>by subst h; unfold crs at h1; simp at h1
 have k:dt d E * crs E c=crs d c * dt E E - crs d E * dt E c:=by unfold dt crs; grind
 rw [h0,Int.zero_mul,Int.sub_zero] at k
 have n1:=pos_of_mul k h1 (Int.mul_nonneg h2 (Int.le_of_lt (dt_pos hE)))
 have k2:dt d E * dt d E+crs d E * crs d E=dt d d * dt E E:=by unfold dt crs; grind
 rw [h0,Int.mul_zero,Int.add_zero] at k2
 have n2:=Int.mul_pos (dt_pos hd) (dt_pos hE)
 by_cases hz:dt d E=0
 ·rw [hz,Int.mul_zero] at k2; omega
 ·omega
theorem nxt_cases {n i:Nat} (hi:i < n):(nxt n i).toNat=(if i+1 < n then i+1 else 0):=by
 split
 ·exact nxt_lt (by assumption)
 ·exact nxt_end (by omega)
theorem prev_of {n i:Nat} (hi:i < n):∃ h,h < n/\(nxt n h).toNat=i:=by
 by_cases h0:i=0
 ·exact ⟨n - 1,by omega,by rw [nxt_end (by omega),h0]⟩
 ·exact ⟨i - 1,by omega,by rw [nxt_lt (by omega)]; omega⟩
theorem corn {l:List DV} (h:polyP l) {i k:Nat} (hi:i < l.length) (hk:k < l.length) (h1:k ≠ i) (h2:k ≠ (nxt l.length i).toNat):0 < trn (nth (t:=tVec) l i) (nth (t:=tVec) l (nxt l.length i).toNat) (nth (t:=tVec) l k) :=
 h.2.2 i k hi hk (by omega) (by have:=nxt_rng (n:=l.length) (i:=i) (by omega); omega)
theorem third (n i j:Nat) (hn:3<=n):∃ k,k < n/\k ≠ i/\k ≠ j:=by
 by_cases h0:i ≠ 0/\j ≠ 0
 ·exact ⟨0,by omega,by omega,by omega⟩
 ·by_cases h1:i ≠ 1/\j ≠ 1
  ·exact ⟨1,by omega,by omega,by omega⟩
  ·exact ⟨2,by omega,by omega,by omega⟩
def edgV (l:List DV) (t:Nat):DV:=sbV (nth (t:=tVec) l (nxt l.length t).toNat) (nth (t:=tVec) l t)
theorem supp_edge {l:List DV} (h:polyP l) {d:DV} (hd:d ≠ (0,0)) {i j:Nat} (hi:i < l.length) (hj:j < l.length) (hne:nth (t:=tVec) l i ≠ nth (t:=tVec) l j) (hall:∀ x ∈ l,0<=crs d (sbV x (nth (t:=tVec) l i)))
  (hz:crs d (sbV (nth (t:=tVec) l j) (nth (t:=tVec) l i))=0):∃ t,t < l.length/\crs d (edgV l t)=0/\0 < dt d (edgV l t):=by
 have h3:3<=l.length:=by have:=h.1.1; omega
 have hij:i ≠ j:=fun e=>hne (by rw [e])
 by_cases c1:j=(nxt l.length i).toNat
 ·obtain ⟨k,hk,hk1,hk2⟩:=third l.length i j h3
  have ht:=corn h hi hk hk1 (by rw [<-c1]; exact hk2)
  have he:edgV l i=sbV (nth (t:=tVec) l j) (nth (t:=tVec) l i):=by unfold edgV; rw [<-c1]
  refine ⟨i,hi,by rw [he]; exact hz,?_⟩
  rw [he]
  rw [trn_crs,<-c1] at ht
  exact same_dir hd hz ht (hall _ (nth_mem hk))
 ·by_cases c2:i=(nxt l.length j).toNat
  ·obtain ⟨k,hk,hk1,hk2⟩:=third l.length i j h3
   have ht:=corn h hj hk hk2 (by rw [<-c2]; exact hk1)
   have he:edgV l j=sbV (nth (t:=tVec) l i) (nth (t:=tVec) l j):=by unfold edgV; rw [<-c2]
   have hz':crs d (sbV (nth (t:=tVec) l i) (nth (t:=tVec) l j))=0:=by
    have:crs d (sbV (nth (t:=tVec) l i) (nth (t:=tVec) l j))=- crs d (sbV (nth (t:=tVec) l j) (nth (t:=tVec) l i)):=by unfold crs sbV; grind
    rw [this,hz]; rfl
   refine ⟨j,hj,by rw [he]; exact hz',?_⟩
   rw [he]
   rw [trn_crs,<-c2] at ht
   refine same_dir hd hz' ht ?_
   have h4:=hall _ (nth_mem hk)
   have:crs d (sbV (nth (t:=tVec) l k) (nth (t:=tVec) l j))=crs d (sbV (nth (t:=tVec) l k) (nth (t:=tVec) l i)) - crs d (sbV (nth (t:=tVec) l j) (nth (t:=tVec) l i)):=by unfold crs sbV; grind
   omega
  ·exfalso
   obtain ⟨g,hg,hgi⟩:=prev_of hi
   have hr:=nxt_rng (n:=l.length) (i:=i) (by omega)
   have hn:(nxt l.length i).toNat < l.length:=by omega
   have t1:=corn h hi hj (Ne.symm hij) c1
   have t2:=corn h hg hj (fun e=>c2 (by rw [e]; exact hgi.symm)) (by rw [hgi]; exact Ne.symm hij)
   rw [hgi] at t2
   have a1:=hall _ (nth_mem hn)
   have a2:=hall _ (nth_mem hg)
   generalize nth (t:=tVec) l i=p at *
   generalize nth (t:=tVec) l j=q at *
   generalize nth (t:=tVec) l (nxt l.length i).toNat=s at *
   generalize nth (t:=tVec) l g=u at *
   have k1:trn p s q * dt d d=- (crs d (sbV s p) * dt d (sbV q p))+dt (sbV s p) d * crs d (sbV q p):=by unfold trn dt crs sbV; grind
   have k2:trn u p q * dt d d=crs d (sbV u p) * dt d (sbV q p) - crs d (sbV q p) * dt d (sbV u p):=by unfold trn dt crs sbV; grind
   rw [hz,Int.mul_zero,Int.add_zero] at k1
   rw [hz,Int.zero_mul,Int.sub_zero] at k2
   have m1:=Int.mul_pos t1 (dt_pos hd)
   have m2:=Int.mul_pos t2 (dt_pos hd)
   have n1:dt d (sbV q p) < 0:=by
    by_cases hq:dt d (sbV q p) < 0
    ·exact hq
    ·have:=Int.mul_nonneg a1 (show 0<=dt d (sbV q p) by omega)
     omega
   have n2:0 < dt d (sbV q p):=by
    by_cases hq:0 < dt d (sbV q p)
    ·exact hq
    ·have:=Int.mul_nonneg a2 (show 0<=- dt d (sbV q p) by omega)
     rw [Int.mul_neg] at this
     omega
   omega
def smV (a b:List DV):List DV:=a.flatMap fun p=>b.map (addV p)
theorem smV_mem {a b:List DV} {x:DV}:x ∈ smV a b ↔ ∃ p ∈ a,∃ q ∈ b,addV p q=x:=by
 unfold smV
 simp only [List.mem_flatMap,List.mem_map]
theorem dir_inj {P:DV->Prop} {H:List DV} (hH:Cvx P H) {i j:Nat} (hi:i < H.length) (hj:j < H.length) {E:DV} (h1:crs (edgV H i) E=0) (h2:0 < dt (edgV H i) E) (h3:crs (edgV H j) E=0) (h4:0 < dt (edgV H j) E):i=j:=by
 have hE:0 < dt E E:=dt_pos fun h=>by subst h; unfold dt at h2; simp at h2
 have k1:crs (edgV H i) (edgV H j) * dt E E=crs (edgV H i) E * dt E (edgV H j) - crs (edgV H j) E * dt E (edgV H i):=by unfold dt crs; grind
 rw [h1,h3,Int.zero_mul,Int.zero_mul,Int.sub_zero] at k1
 have z:crs (edgV H i) (edgV H j)=0:=by
  rcases Int.mul_eq_zero.1 k1 with h|h
  ·exact h
  ·omega
 have k2:dt (edgV H i) (edgV H j) * dt E E=dt (edgV H i) E * dt (edgV H j) E+crs (edgV H i) E * crs (edgV H j) E:=by unfold dt crs; grind
 rw [h1,Int.zero_mul,Int.add_zero] at k2
 have p:=pos_of_mul' k2 hE (Int.mul_pos h2 h4)
 by_cases hij:i=j
 ·exact hij
 ·exfalso
  have ri:=nxt_rng (n:=H.length) (i:=i) (by omega)
  have rj:=nxt_rng (n:=H.length) (i:=j) (by omega)
  have mi:nth (t:=tVec) H i ∈ H:=nth_mem hi
  have mj:nth (t:=tVec) H j ∈ H:=nth_mem hj
  have ndI:nth (t:=tVec) H i ≠ nth (t:=tVec) H j:=by
   rw [nth_lt hi,nth_lt hj]
   intro e
   exact hij (nd_inj hH.nodup _ _ e)
  have l1:=hH.low i hi _ (hH.sub _ mj)
  have l2:=hH.low j hj _ (hH.sub _ mi)
  have s1:=hH.str i hi _ mj
  have s2:=hH.str j hj _ mi
  unfold edgV at z p h1 h2 h3 h4
  have dd1:0 < dt (sbV (nth (t:=tVec) H (nxt H.length i).toNat) (nth (t:=tVec) H i)) (sbV (nth (t:=tVec) H (nxt H.length i).toNat) (nth (t:=tVec) H i)):=dt_pos fun h=>by rw [h] at h2; unfold dt at h2; simp at h2
  generalize nth (t:=tVec) H i=a at *
  generalize nth (t:=tVec) H j=b at *
  generalize nth (t:=tVec) H (nxt H.length i).toNat=a' at *
  generalize nth (t:=tVec) H (nxt H.length j).toNat=b' at *
  rw [trn_crs] at l1 l2
  have k3:crs (sbV b' b) (sbV a b) * dt (sbV a' a) (sbV a' a)=- (crs (sbV a' a) (sbV b a) * dt (sbV a' a) (sbV b' b)) - crs (sbV a' a) (sbV b' b) * dt (sbV a' a) (sbV a b):=by unfold dt crs sbV; grind
  rw [z,Int.zero_mul,Int.sub_zero] at k3
  have q1:=Int.mul_nonneg l2 (Int.le_of_lt dd1)
  have q2:=Int.mul_nonneg l1 (Int.le_of_lt p)
  have q3:crs (sbV a' a) (sbV b a) * dt (sbV a' a) (sbV b' b)=0:=by omega
  have q4:crs (sbV a' a) (sbV b a)=0:=by
   rcases Int.mul_eq_zero.1 q3 with h|h
   ·exact h
   ·omega
  have q5:crs (sbV b' b) (sbV a b)=0:=by
   have:crs (sbV b' b) (sbV a b) * dt (sbV a' a) (sbV a' a)=0:=by rw [k3,q3]; rfl
   rcases Int.mul_eq_zero.1 this with h|h
   ·exact h
   ·omega
  rw [trn_crs] at s1 s2
  rcases s1 with h|h|h
  ·exact ndI h.symm
  ·rcases s2 with h'|h'|h'
   ·exact ndI h'
   ·subst h h'
    have:dt (sbV b a) (sbV a b)=- dt (sbV b a) (sbV b a):=by unfold dt sbV; grind
    omega
   ·omega
  ·omega
theorem mink_le {a b H:List DV} (ha:polyP a) (hb:polyP b) (hH:Cvx (fun p=>p ∈ smV a b) H):H.length<=a.length+b.length:=by
 refine pigeon (R:=fun i c=>(c < a.length/\crs (edgV H i) (edgV a c)=0/\0 < dt (edgV H i) (edgV a c))\/(a.length<=c/\crs (edgV H i) (edgV b (c - a.length))=0/\0 < dt (edgV H i) (edgV b (c - a.length)))) ?_ ?_
 ·intro i hi
  have ri:=nxt_rng (n:=H.length) (i:=i) (by omega)
  have hn:(nxt H.length i).toNat < H.length:=by omega
  have h3:=hH.three
  have hlow:=hH.low i hi
  have nd:nth (t:=tVec) H (nxt H.length i).toNat ≠ nth (t:=tVec) H i:=by
   rw [nth_lt hn,nth_lt hi]
   intro e
   have e2:=nd_inj hH.nodup _ _ e
   have:=nxt_cases hi
   split at this<;>omega
  obtain ⟨p,hp,q,hq,e1⟩:=smV_mem.1 (hH.sub _ (nth_mem hi))
  obtain ⟨p',hp',q',hq',e2⟩:=smV_mem.1 (hH.sub _ (nth_mem hn))
  have hdd:edgV H i=sbV (nth (t:=tVec) H (nxt H.length i).toNat) (nth (t:=tVec) H i):=rfl
  have hd0:edgV H i ≠ (0,0):=by
   exact sb_ne nd
  have A:∀ x ∈ a,0<=crs (edgV H i) (sbV x p):=fun x hx=>by
   have h:=hlow (addV x q) (smV_mem.2 ⟨x,hx,q,hq,rfl⟩)
   rw [trn_crs,<-hdd,<-e1] at h
   have:sbV (addV x q) (addV p q)=sbV x p:=by unfold sbV addV; exact Prod.ext (by simp only; omega) (by simp only; omega)
   rw [this] at h; exact h
  have B:∀ y ∈ b,0<=crs (edgV H i) (sbV y q):=fun y hy=>by
   have h:=hlow (addV p y) (smV_mem.2 ⟨p,hp,y,hy,rfl⟩)
   rw [trn_crs,<-hdd,<-e1] at h
   have:sbV (addV p y) (addV p q)=sbV y q:=by unfold sbV addV; exact Prod.ext (by simp only; omega) (by simp only; omega)
   rw [this] at h; exact h
  have hz:crs (edgV H i) (sbV p' p)+crs (edgV H i) (sbV q' q)=0:=by
   have:edgV H i=(p'.1 - p.1+(q'.1 - q.1),p'.2 - p.2+(q'.2 - q.2)):=by
    rw [hdd,<-e1,<-e2]; unfold sbV addV; exact Prod.ext (by simp only; omega) (by simp only; omega)
   rw [this]; unfold crs sbV; grind
  have hA:=A p' hp'
  have hB:=B q' hq'
  have zA:crs (edgV H i) (sbV p' p)=0:=by omega
  have zB:crs (edgV H i) (sbV q' q)=0:=by omega
  obtain ⟨i1,hi1,f1⟩:=List.getElem_of_mem hp
  obtain ⟨i2,hi2,f2⟩:=List.getElem_of_mem hp'
  obtain ⟨j1,hj1,g1⟩:=List.getElem_of_mem hq
  obtain ⟨j2,hj2,g2⟩:=List.getElem_of_mem hq'
  rw [<-nth_lt (t:=tVec) hi1] at f1
  rw [<-nth_lt (t:=tVec) hi2] at f2
  rw [<-nth_lt (t:=tVec) hj1] at g1
  rw [<-nth_lt (t:=tVec) hj2] at g2
  by_cases hpp:p=p'
  ·have hqq:q ≠ q':=fun h=>nd (by rw [<-e1,<-e2,hpp,h])
   obtain ⟨t,ht,h1,h2⟩:=supp_edge hb hd0 hj1 hj2 (by rw [g1,g2]; exact hqq) (by rw [g1]; exact B) (by rw [g1,g2]; exact zB)
   exact ⟨a.length+t,by omega,.inr ⟨by omega,by rw [show a.length+t - a.length=t by omega]; exact ⟨h1,h2⟩⟩⟩
  ·obtain ⟨t,ht,h1,h2⟩:=supp_edge ha hd0 hi1 hi2 (by rw [f1,f2]; exact hpp) (by rw [f1]; exact A) (by rw [f1,f2]; exact zA)
   exact ⟨t,by omega,.inl ⟨ht,h1,h2⟩⟩
 ·rintro i j c hi hj (⟨_,h1,h2⟩|⟨hc,h1,h2⟩) (⟨_,h3,h4⟩|⟨hc',h3,h4⟩)
  ·exact dir_inj hH hi hj h1 h2 h3 h4
  ·omega
  ·omega
  ·exact dir_inj hH hi hj h1 h2 h3 h4
theorem hullD_of {l:List DV} (hn:∃ a ∈ l,∃ b ∈ l,∃ c ∈ l,trn a b c ≠ 0):Cvx (fun p=>p ∈ l) (hullD l):=by
 have hn':∃ a ∈ srtD l,∃ b ∈ srtD l,∃ c ∈ srtD l,trn a b c ≠ 0:=by
  obtain ⟨a,ha,b,hb,c,hc,h⟩:=hn
  exact ⟨a,srtD_mem.2 ha,b,srtD_mem.2 hb,c,srtD_mem.2 hc,h⟩
 have hC:=hull_cvx (srtD_srt l) hn'
 have h2:¬ (srtD l).length < 2:=by
  obtain ⟨a,ha,b,hb,c,hc,h⟩:=hn'
  intro hlt
  match hs:srtD l,ha,hb,hc with
  | [x],ha,hb,hc =>
   simp at ha hb hc
   subst ha hb hc
   exact h (trn_aa _ _)
  | _ :: _ :: _,_,_,_=>rw [hs] at hlt; simp at hlt; omega
 unfold hullD
 rw [if_neg h2]
 exact ⟨hC.three,hC.nodup,hC.str,fun i hi p hp=>hC.low i hi p (srtD_mem.2 hp),fun x hx=>srtD_mem.1 (hC.sub x hx)⟩
theorem trn_addV (c:DV) (x y z:DV):trn (addV x c) (addV y c) (addV z c)=trn x y z:=by unfold trn addV; grind
theorem sum_poly {a b:List DV} (ha:polyP a) (hb:polyP b) (hl:a.length+b.length<=16) (hs:∀ x ∈ smV a b,okV x=true):polyP (hullD (smV a b)):=by
 have la:3<=a.length:=by have:=ha.1.1; omega
 have lb:3<=b.length:=by have:=hb.1.1; omega
 have hC:=hullD_of (l:=smV a b) (by
  have m0:nth (t:=tVec) b 0 ∈ b:=nth_mem (by omega)
  have r0:(nxt a.length 0).toNat=1:=nxt_lt (by omega)
  refine ⟨_,smV_mem.2 ⟨_,nth_mem (l:=a) (i:=0) (by omega),_,m0,rfl⟩,_,smV_mem.2 ⟨_,nth_mem (l:=a) (i:=1) (by omega),_,m0,rfl⟩,_,smV_mem.2 ⟨_,nth_mem (l:=a) (i:=2) (by omega),_,m0,rfl⟩,?_⟩
  rw [trn_addV]
  have:=corn ha (i:=0) (k:=2) (by omega) (by omega) (by omega) (by omega)
  rw [r0] at this
  omega)
 have hle:=mink_le ha hb hC
 have h3:=hC.three
 refine ⟨⟨by omega,by omega⟩,fun v hv=>hs v (hC.sub v hv),fun i k hi hk n1 n2=>?_⟩
 have ri:=nxt_rng (n:=(hullD (smV a b)).length) (i:=i) (by omega)
 have hn:(nxt (hullD (smV a b)).length i).toNat < (hullD (smV a b)).length:=by omega
 have nd:∀ {j:Nat} (hj:j < (hullD (smV a b)).length),k ≠ j->nth (t:=tVec) (hullD (smV a b)) k ≠ nth (t:=tVec) (hullD (smV a b)) j:=by
  intro j hj hkj
  rw [nth_lt hk,nth_lt hj]
  intro e
  exact hkj (nd_inj hC.nodup _ _ e)
 rcases hC.str i hi _ (nth_mem hk) with h|h|h
 ·exact absurd h (nd hi (by omega))
 ·exact absurd h (nd hn (by omega))
 ·exact h
theorem nth_memT {t:Ty} {l:List t.den} {i:Nat} (h:i < l.length):nth l i ∈ l:=by rw [nth_lt h]; exact List.getElem_mem h
theorem indexFunc_vecC_fn (F:FuncId) (A:Ty) (x:A.den) (p:DV->Bool) (l:List DV) (hF:∀ y ∈ l,Fn Tryz.prog F (⟨tVec,y⟩ :: capD A x) false [⟨.bool,p y⟩]):Fn Tryz.prog 151 [⟨.slice tVec,l⟩,⟨.ext (.clo F) A,some x⟩] false [⟨.int,ixf (t:=tVec) p l⟩]:=by
 refine fe Tryz.func151 Tryz.ntmps151 Tryz.results151 fun hwf=>?_
 have hl:l.length<=9223372036854775807:=(hwf ⟨.slice tVec,l⟩ (by simp)).1
 try simp (maxSteps:=9^9) only[go_sem]
 refine LoopG.intro _ _ _ (fun i:Nat=>⟨[(0,.sl tVec l),(1,.ex (.clo F) A (some x)),(7,.sc (.int .i64 l.length)),(8,.sc (.int .i64 i))],[]⟩) (fun i=>∀ j < i,j < l.length->p (nth (t:=tVec) l j)=false) (fun i=>l.length - i) 0 ?_ (fun j h=>by simp at h) ?_
 ·exact WK
 ·rintro i h2
  try simp (maxSteps:=9^9) only[go_sem]
  refine CondW_dec (fun h3=>?_) (fun h3=>?_)
  ·have c1:=hF (nth (t:=tVec) l i) (nth_memT (t:=tVec) (by omega))
   try simp (maxSteps:=9^9) only[go_sem]
   repeat refine AI ?_
   repeat refine AI ?_
   refine CallD.mk (c1) ?_
   try simp (maxSteps:=9^9) only[go_sem]
   refine CondW_b (fun h4=>?_) (fun h4=>?_)
   ·try simp (maxSteps:=9^9) only[go_sem]
    exact (ixf_at (by omega) h4 (fun j hj=>h2 j hj (by omega))).symm
   ·try simp (maxSteps:=9^9) only[go_sem]
    repeat refine AI ?_
    refine LoopK.mk (i+1) ?_ (fun j hj hl=>?_) (by omega)
    ·exact WK
    ·by_cases hj2:j < i
     ·exact h2 j hj2 hl
     ·rw [show j=i by omega]; exact h4
  ·try simp (maxSteps:=9^9) only[go_sem]
   exact (ixf_none fun j hj=>h2 j (by omega) hj).symm
theorem containsFunc_vecC_fn (F:FuncId) (A:Ty) (x:A.den) (p:DV->Bool) (l:List DV) (hF:∀ y ∈ l,Fn Tryz.prog F (⟨tVec,y⟩ :: capD A x) false [⟨.bool,p y⟩]):Fn Tryz.prog 109 [⟨.slice tVec,l⟩,⟨.ext (.clo F) A,some x⟩] false [⟨.bool,l.any p⟩]:=by
 have c1:=indexFunc_vecC_fn F A x p l hF
 refine fe Tryz.func109 Tryz.ntmps109 Tryz.results109 fun hwf=>?_
 try simp (maxSteps:=9^9) only[go_sem]
 repeat refine AI ?_
 refine cw c1 ?_
 try simp (maxSteps:=9^9) only[go_sem]
 exact ixf_any
theorem areInC_fn (k:Int) (hk:0<=k/\k<=1000000) (v:DV):Fn Tryz.prog 110 [⟨tVec,v⟩,⟨.ext .ref .int,some k⟩] false [⟨.bool,!inB k v⟩]:=by
 have c1:=within_fn v.1 (-k) k
 have c2:=within_fn v.2 (-k) k
 unfold inB
 cases h:decide (-k<=v.1/\v.1<=k)<;>rw [h] at c1
 ·refine fe Tryz.func110 Tryz.ntmps110 Tryz.results110 fun hwf=>?_
  try simp (maxSteps:=9^9) only[go_sem]
  repeat refine AI ?_
  repeat refine AI ?_
  refine cw c1 ?_
  try simp (maxSteps:=9^9) only[go_sem]
  all_goals repeat refine AI ?_
  all_goals first|kernel_rfl|omega|rfl
 ·refine fe Tryz.func110 Tryz.ntmps110 Tryz.results110 fun hwf=>?_
  try simp (maxSteps:=9^9) only[go_sem]
  repeat refine AI ?_
  repeat refine AI ?_
  refine cw c1 ?_
  try simp (maxSteps:=9^9) only[go_sem]
  repeat refine AI ?_
  repeat refine AI ?_
  refine cw c2 ?_
  try simp (maxSteps:=9^9) only[go_sem]
  all_goals repeat refine AI ?_
  all_goals first|kernel_rfl|omega|rfl
theorem areIn_fn (k:Int) (hk:0<=k/\k<=1000000) (l:List DV):Fn Tryz.prog 74 [⟨.int,k⟩,⟨.slice tVec,l⟩] false [⟨.bool,!(l.any fun v=>!inB k v)⟩]:=by
 have c1:=containsFunc_vecC_fn 110 (.ext .ref .int) (some k) (fun v=>!inB k v) l (fun y _=>areInC_fn k hk y)
 refine fe Tryz.func74 Tryz.ntmps74 Tryz.results74 fun hwf=>?_
 try simp (maxSteps:=9^9) only[go_sem]
 repeat refine AI ?_
 repeat refine AI ?_
 refine CallK.mk (c1) ?_
 try simp (maxSteps:=9^9) only[go_sem]
 all_goals repeat refine AI ?_
 all_goals first|kernel_rfl|omega|rfl
def allIn (k:Int) (l:List DV):Bool:=!(l.any fun v=>!inB k v)
theorem allIn_f {k:Int} {l:List DV} {i:Nat} (hi:i < l.length) (h:inB k (nth (t:=tVec) l i)=false):allIn k l=false:=by
 unfold allIn
 rw [Bool.not_eq_false',List.any_eq_true]
 exact ⟨_,nth_mem hi,by rw [h]; rfl⟩
theorem allIn_t {k:Int} {l:List DV} (h:∀ i,i < l.length->inB k (nth (t:=tVec) l i)=true):allIn k l=true:=by
 unfold allIn
 rw [Bool.not_eq_true',List.any_eq_false]
 intro v hv
 obtain ⟨i,hi,rfl⟩:=List.getElem_of_mem hv
 have:=h i hi
 rw [nth_lt hi] at this
 rw [this]; decide
theorem l10Inside_fn (l:List DV) (k:Int) (hk:0<=k/\k<=1000000):Fn Tryz.prog 157 [⟨.slice tVec,l⟩,⟨.int,k⟩] false [⟨.bool,allIn k l⟩]:=by
 refine fe Tryz.func157 Tryz.ntmps157 Tryz.results157 fun hwf=>?_
 have hl:l.length<=9223372036854775807:=(hwf ⟨.slice tVec,l⟩ (by simp)).1
 try simp (maxSteps:=9^9) only[go_sem]
 refine LoopG.intro _ _ _ (fun i:Nat=>⟨[(1,.sc (.int .i64 k)),(7,.sl tVec l),(8,.sc (.int .i64 l.length)),(9,.sc (.int .i64 i))],[]⟩) (fun i=>∀ j,j < i->j < l.length->inB k (nth (t:=tVec) l j)=true) (fun i=>l.length - i) 0 ?_ (fun j h=>absurd h (Nat.not_lt_zero _)) ?_
 ·exact WK
 ·rintro i hi
  try simp (maxSteps:=9^9) only[go_sem]
  refine CondW_dec (fun hA=>?_) (fun hA=>?_)
  ·have c1:=l01In_fn (nth (t:=tVec) l i).1 (-k) k
   have c2:=l01In_fn (nth (t:=tVec) l i).2 (-k) k
   cases e1:decide (-k<=(nth (t:=tVec) l i).1/\(nth (t:=tVec) l i).1<=k)<;>rw [e1] at c1
   ·have e0:inB k (nth (t:=tVec) l i)=false:=by unfold inB; rw [e1]; rfl
    rw [allIn_f (by omega) e0]
    try simp (maxSteps:=9^9) only[go_sem]
    repeat refine AI ?_
    repeat refine AI ?_
    refine cw c1 ?_
    try simp (maxSteps:=9^9) only[go_sem]
   ·cases e2:decide (-k<=(nth (t:=tVec) l i).2/\(nth (t:=tVec) l i).2<=k)<;>rw [e2] at c2
    ·have e0:inB k (nth (t:=tVec) l i)=false:=by unfold inB; rw [e1,e2]; rfl
     rw [allIn_f (by omega) e0]
     try simp (maxSteps:=9^9) only[go_sem]
     repeat refine AI ?_
     repeat refine AI ?_
     refine cw c1 ?_
     try simp (maxSteps:=9^9) only[go_sem]
     repeat refine AI ?_
     refine cw c2 ?_
     try simp (maxSteps:=9^9) only[go_sem]
    ·have e0:inB k (nth (t:=tVec) l i)=true:=by unfold inB; rw [e1,e2]; rfl
     try simp (maxSteps:=9^9) only[go_sem]
     repeat refine AI ?_
     repeat refine AI ?_
     refine cw c1 ?_
     try simp (maxSteps:=9^9) only[go_sem]
     repeat refine AI ?_
     refine cw c2 ?_
     try simp (maxSteps:=9^9) only[go_sem]
     repeat refine AI ?_
     refine LoopK.mk (i+1) ?_ (fun j h1 h2=>?_) (by omega)
     ·exact WK
     ·by_cases h3:j < i
      ·exact hi j h3 h2
      ·rw [show j=i by omega]; exact e0
  ·rw [allIn_t fun j hj=>hi j (by omega) hj]
   try simp (maxSteps:=9^9) only[go_sem]
noncomputable def smB (l:List DV) (k:Int):Bool:=decide ((l.length:Int)<=5) && (polyB l && allIn k l)
theorem isSmall_fn (l:List DV) (k:Int) (hk:0<=k/\k<=1000000):Fn Tryz.prog 45 [⟨.slice tVec,l⟩,⟨.int,k⟩] false [⟨.bool,smB l k⟩]:=by
 have c1:=implIsPolygon_fn l
 unfold smB
 cases h1:decide ((l.length:Int)<=5)
 ·refine fe Tryz.func45 Tryz.ntmps45 Tryz.results45 fun hwf=>?_
  try simp (maxSteps:=9^9) only[go_sem,h1]
 ·cases h2:polyB l<;>rw [h2] at c1
  ·refine fe Tryz.func45 Tryz.ntmps45 Tryz.results45 fun hwf=>?_
   try simp (maxSteps:=9^9) only[go_sem,h1]
   repeat refine AI ?_
   refine cw c1 ?_
   try simp (maxSteps:=9^9) only[go_sem]
  ·have c2:Fn Tryz.prog 74 [⟨.int,k⟩,⟨.slice tVec,l⟩] false [⟨.bool,allIn k l⟩]:=areIn_fn k hk l
   refine fe Tryz.func45 Tryz.ntmps45 Tryz.results45 fun hwf=>?_
   try simp (maxSteps:=9^9) only[go_sem,h1]
   repeat refine AI ?_
   refine cw c1 ?_
   try simp (maxSteps:=9^9) only[go_sem]
   repeat refine AI ?_
   refine cw c2 ?_
   try simp (maxSteps:=9^9) only[go_sem]
theorem l10Shape_fn (l:List DV) (k:Int) (hk:0<=k/\k<=1000000):Fn Tryz.prog 116 [⟨.slice tVec,l⟩,⟨.int,k⟩] false [⟨.bool,smB l k⟩]:=by
 have c1:=specIsPolygon_fn l
 have c2:=l10Inside_fn l k hk
 unfold smB
 cases h2:polyB l<;>rw [h2] at c1
 ·rw [Bool.false_and,Bool.and_false]
  refine fe Tryz.func116 Tryz.ntmps116 Tryz.results116 fun hwf=>?_
  try simp (maxSteps:=9^9) only[go_sem]
  repeat refine AI ?_
  refine cw c1 ?_
  try simp (maxSteps:=9^9) only[go_sem]
 ·cases h1:decide ((l.length:Int)<=5)
  ·refine fe Tryz.func116 Tryz.ntmps116 Tryz.results116 fun hwf=>?_
   try simp (maxSteps:=9^9) only[go_sem]
   repeat refine AI ?_
   refine cw c1 ?_
   try simp (maxSteps:=9^9) only[go_sem]
   try simp (maxSteps:=9^9) only[go_sem,h1]
  ·refine fe Tryz.func116 Tryz.ntmps116 Tryz.results116 fun hwf=>?_
   try simp (maxSteps:=9^9) only[go_sem]
   repeat refine AI ?_
   refine cw c1 ?_
   try simp (maxSteps:=9^9) only[go_sem]
   try simp (maxSteps:=9^9) only[go_sem,h1]
   repeat refine AI ?_
   refine cw c2 ?_
   try simp (maxSteps:=9^9) only[go_sem]
theorem polyB_p {l:List DV} (h:polyB l=true):polyP l:=@of_decide_eq_true _ (Classical.propDecidable _) h
theorem poly_map {l:List DV} {f:DV->DV} (h:polyP l) (hok:∀ v ∈ l,okV (f v)=true) (ht:∀ a b c,trn (f a) (f b) (f c)=trn a b c):polyP (l.map f):=by
 have hn:∀ {k},k < l.length->nth (t:=tVec) (l.map f) k=f (nth (t:=tVec) l k):=fun {k} hk=>by
  rw [nth_lt (t:=tVec) hk,nth_lt (t:=tVec) (l:=l.map f) (by rw [List.length_map]; exact hk),List.getElem_map]
 refine ⟨by rw [List.length_map]; exact h.1,fun v hv=>?_,fun i k hi hk=>?_⟩
 ·obtain ⟨u,hu,rfl⟩:=List.mem_map.1 hv
  exact hok u hu
 ·rw [List.length_map] at hi hk
  have ri:=nxt_rng (n:=l.length) (i:=i) (by omega)
  have:=h.2.2 i k hi hk
  unfold cornOK at this ⊢
  rw [List.length_map,hn hi,hn hk,hn (by omega),ht]
  exact this
theorem trn_rot1 (a b c:DV):trn (rot1 a) (rot1 b) (rot1 c)=trn a b c:=by unfold trn rot1; grind
theorem trn_rot (a b c:DV):∀ n,trn (rotN n a) (rotN n b) (rotN n c)=trn a b c
 | 0=>rfl
 | n+1=>by
  show trn (rot1 (rotN n a)) (rot1 (rotN n b)) (rot1 (rotN n c))=_
  rw [trn_rot1,trn_rot a b c n]
theorem okV_neg {v:DV} (h:okV v=true):okV (negV v)=true:=by
 obtain ⟨h1,h2,h3,h4⟩:=okV_b h
 unfold negV
 exact okV_of (by simp only; omega) (by simp only; omega) (by simp only; omega) (by simp only; omega)
theorem poly_neg {l:List DV} (h:polyP l):polyP (l.map negV):=poly_map h (fun v hv=>okV_neg (h.2.1 v hv)) trn_ng
theorem poly_rot {l:List DV} (h:polyP l) (n:Nat):polyP (l.map (rotN n)):=poly_map h (fun v hv=>okV_rot (h.2.1 v hv) n) fun a b c=>trn_rot a b c n
theorem inB_b {k:Int} {v:DV} (h:inB k v=true):-k<=v.1/\v.1<=k/\-k<=v.2/\v.2<=k:=by
 unfold inB at h
 rw [Bool.and_eq_true] at h
 exact ⟨(of_decide_eq_true h.1).1,(of_decide_eq_true h.1).2,(of_decide_eq_true h.2).1,(of_decide_eq_true h.2).2⟩
theorem inB_of {k:Int} {v:DV} (h1:-k<=v.1) (h2:v.1<=k) (h3:-k<=v.2) (h4:v.2<=k):inB k v=true:=by
 unfold inB
 rw [Bool.and_eq_true,decide_eq_true_iff,decide_eq_true_iff]
 exact ⟨⟨h1,h2⟩,h3,h4⟩
theorem inB_rot {k:Int} {v:DV} (h:inB k v=true):∀ n,inB k (rotN n v)=true
 | 0=>h
 | n+1=>by
  obtain ⟨b1,b2,b3,b4⟩:=inB_b (inB_rot h n)
  show inB k (rot1 (rotN n v))=true
  unfold rot1
  exact inB_of (by simp only; omega) (by simp only; omega) (by simp only; omega) (by simp only; omega)
structure SmP (k:Int) (l:List DV):Prop where
 five:l.length<=5
 poly:polyP l
 ins:∀ v ∈ l,inB k v=true
theorem smB_p {l:List DV} {k:Int} (h:smB l k=true):SmP k l:=by
 unfold smB at h
 rw [Bool.and_eq_true,Bool.and_eq_true] at h
 obtain ⟨h1,h2,h3⟩:=h
 refine ⟨by have:=of_decide_eq_true h1; omega,polyB_p h2,fun v hv=>?_⟩
 unfold allIn at h3
 rw [Bool.not_eq_true',List.any_eq_false] at h3
 have:=h3 v hv
 simpa using this
theorem SmP.rot {k:Int} {l:List DV} (h:SmP k l) (n:Nat):SmP k (l.map (rotN n)) :=
 ⟨by rw [List.length_map]; exact h.five,poly_rot h.poly n,fun v hv=>by obtain ⟨u,hu,rfl⟩:=List.mem_map.1 hv; exact inB_rot (h.ins u hu) n⟩
theorem SmP.neg {k:Int} {l:List DV} (h:SmP k l):SmP k (l.map negV) :=
 ⟨by rw [List.length_map]; exact h.five,poly_neg h.poly,fun v hv=>by
  obtain ⟨u,hu,rfl⟩:=List.mem_map.1 hv
  obtain ⟨b1,b2,b3,b4⟩:=inB_b (h.ins u hu)
  unfold negV
  exact inB_of (by simp only; omega) (by simp only; omega) (by simp only; omega) (by simp only; omega)⟩
theorem SmP.ok {k:Int} {l:List DV} (h:SmP k l):∀ v ∈ l,okV v=true:=h.poly.2.1
theorem SmP.sum_ok {k m:Int} {a b:List DV} (ha:SmP k a) (hb:SmP m b) (hkm:k+m<=1000):∀ x ∈ smV a b,okV x=true:=by
 intro x hx
 obtain ⟨p,hp,q,hq,rfl⟩:=smV_mem.1 hx
 obtain ⟨b1,b2,b3,b4⟩:=inB_b (ha.ins p hp)
 obtain ⟨c1,c2,c3,c4⟩:=inB_b (hb.ins q hq)
 unfold addV
 exact okV_of (by simp only; omega) (by simp only; omega) (by simp only; omega) (by simp only; omega)
theorem SmP.sum {k m:Int} {a b:List DV} (ha:SmP k a) (hb:SmP m b) (hkm:k+m<=1000):polyP (hullD (smV a b)) :=
 sum_poly ha.poly hb.poly (by have:=ha.five; have:=hb.five; omega) (ha.sum_ok hb hkm)
def smI (a b:List DV) (i:Nat):List DV:=smV (a.take i) b
theorem smI_step {a b:List DV} {i:Nat} (h:i < a.length):smI a b (i+1)=smI a b i++b.map (addV (nth (t:=tVec) a i)):=by
 unfold smI smV
 rw [List.take_succ_eq_append_getElem h,nth_lt h,List.flatMap_append]
 simp
theorem smV_len (a b:List DV):(smV a b).length=a.length * b.length:=by
 unfold smV
 induction a with
 | nil=>simp
 | cons x a ih=>rw [List.flatMap_cons,List.length_append,ih,List.length_map,List.length_cons,Nat.succ_mul]; omega
theorem smI_len {a b:List DV} {i:Nat} (h:i<=a.length):(smI a b i).length=i * b.length:=by
 unfold smI; rw [smV_len,List.length_take,Nat.min_eq_left h]
theorem smI_all {a b:List DV} {i:Nat} (h:a.length<=i):smI a b i=smV a b:=by unfold smI; rw [List.take_of_length_le h]
theorem five_mul {i n:Nat} (h1:i<=5) (h2:n<=5):i * n<=25:=Nat.mul_le_mul h1 h2
theorem SumPolygonsI_fn {k m:Int} (a b:List DV) (ha:SmP k a) (hb:SmP m b) (hkm:k+m<=1000):Fn Tryz.prog 101 [⟨.slice tVec,a⟩,⟨.slice tVec,b⟩] true [⟨.slice tVec,hullD (smV a b)⟩]:=by
 have c1:=implIsPolygon_fn a
 have c2:=implIsPolygon_fn b
 rw [polyB_t ha.poly] at c1
 rw [polyB_t hb.poly] at c2
 have hab:=five_mul ha.five hb.five
 have l1:=ha.five
 have l2:=hb.five
 have hab':(a.length:Int) * (b.length:Int)<=25:=by exact_mod_cast hab
 have hab0:(0:Int)<=(a.length:Int) * (b.length:Int):=Int.mul_nonneg (by omega) (by omega)
 have d0:=decide_eq_false (p:=(a.length:Int) * (b.length:Int) > 64) (by omega)
 refine fe Tryz.func101 Tryz.ntmps101 Tryz.results101 fun hwf=>?_
 try simp (maxSteps:=9^9) only[go_sem]
 repeat refine AI ?_
 refine cw c1 ?_
 try simp (maxSteps:=9^9) only[go_sem]
 repeat refine AI ?_
 refine cw c2 ?_
 try simp (maxSteps:=9^9) only[go_sem]
 repeat refine AI ?_
 try simp (maxSteps:=9^9) only[go_sem,d0]
 refine LoopG.intro _ _ _ (fun i:Nat=>⟨[(1,.sl tVec b),(5,.row 0 0),(26,.sl tVec a),(27,.sc (.int .i64 a.length)),(28,.sc (.int .i64 i))],[(0,.row 61 tVec 0 true (smI a b i))]⟩) (fun i=>i<=a.length) (fun i=>a.length - i) 0 ?_ (Nat.zero_le _) ?_
 ·exact WK
 ·rintro i hi
  try simp (maxSteps:=9^9) only[go_sem]
  refine CondW_dec (fun hA=>?_) (fun hA=>?_)
  ·have hlt:i < a.length:=by omega
   have hml:=smI_len (a:=a) (b:=b) (i:=i) (by omega)
   have h25:=five_mul (i:=i) (n:=b.length) (by omega) l2
   have e:=smI_step (b:=b) hlt
   have c3:=moved_fn b (nth (t:=tVec) a i) (ha.ok _ (nth_mem hlt)) hb.ok (by omega)
   have hmm:(b.map (addV (nth (t:=tVec) a i))).length=b.length:=List.length_map ..
   try simp (maxSteps:=9^9) only[go_sem]
   repeat refine AI ?_
   repeat refine AI ?_
   refine cw c3 ?_
   try simp (maxSteps:=9^9) only[go_sem]
   try simp (maxSteps:=9^9) only[go_sem,hml,hmm]
   repeat refine AI ?_
   refine LoopK.mk (i+1) ?_ (by omega) (by omega)
   rw [e]
   exact WK
  ·rw [smI_all (by omega)]
   have hp:=ha.sum hb hkm
   have hsl:=smV_len a b
   have pos:0 < (smV a b).length:=by
    rw [hsl]
    have:=ha.poly.1.1
    have:=hb.poly.1.1
    exact Nat.mul_pos (by omega) (by omega)
   have c4:=HullOf_fn (smV a b) (ha.sum_ok hb hkm) pos (by omega)
   have c5:=implIsPolygon_fn (hullD (smV a b))
   rw [polyB_t hp] at c5
   try simp (maxSteps:=9^9) only[go_sem]
   repeat refine AI ?_
   refine cw c4 ?_
   try simp (maxSteps:=9^9) only[go_sem]
   repeat refine AI ?_
   refine cw c5 ?_
   try simp (maxSteps:=9^9) only[go_sem]
theorem addV_c (p q:DV):addV p q=(p.1+q.1,p.2+q.2):=by unfold addV; rw [Int.add_comm q.1,Int.add_comm q.2]
def smJ (a b:List DV) (i j:Nat):List DV:=smI a b i++mapi (addV (nth (t:=tVec) a i)) b j
theorem smJ_step {a b:List DV} {i j:Nat} (h:j < b.length):smJ a b i (j+1)=smJ a b i j++[((nth (t:=tVec) a i).1+(nth (t:=tVec) b j).1,(nth (t:=tVec) a i).2+(nth (t:=tVec) b j).2)]:=by
 unfold smJ
 rw [mapi_step h,addV_c,List.append_assoc]
theorem smJ_len {a b:List DV} {i j:Nat} (h:i<=a.length) (hj:j<=b.length):(smJ a b i j).length=i * b.length+j:=by
 unfold smJ
 rw [List.length_append,smI_len h,mapi_len hj]
theorem smJ_0 (a b:List DV) (i:Nat):smJ a b i 0=smI a b i:=by unfold smJ mapi; simp
theorem smJ_all {a b:List DV} {i j:Nat} (h:i < a.length) (hj:b.length<=j):smJ a b i j=smI a b (i+1):=by
 unfold smJ
 rw [smI_step h,mapi_all hj]
theorem SumPolygonsS_fn {k m:Int} (a b:List DV) (ha:SmP k a) (hb:SmP m b) (hkm:k+m<=1000):Fn Tryz.prog 161 [⟨.slice tVec,a⟩,⟨.slice tVec,b⟩] true [⟨.slice tVec,hullD (smV a b)⟩]:=by
 have c1:=specIsPolygon_fn a
 have c2:=specIsPolygon_fn b
 rw [polyB_t ha.poly] at c1
 rw [polyB_t hb.poly] at c2
 have hab:=five_mul ha.five hb.five
 have l1:=ha.five
 have l2:=hb.five
 have hab':(a.length:Int) * (b.length:Int)<=25:=by exact_mod_cast hab
 have hab0:(0:Int)<=(a.length:Int) * (b.length:Int):=Int.mul_nonneg (by omega) (by omega)
 have d0:=decide_eq_false (p:=(a.length:Int) * (b.length:Int) > 64) (by omega)
 refine fe Tryz.func161 Tryz.ntmps161 Tryz.results161 fun hwf=>?_
 try simp (maxSteps:=9^9) only[go_sem]
 repeat refine AI ?_
 refine cw c1 ?_
 try simp (maxSteps:=9^9) only[go_sem]
 repeat refine AI ?_
 refine cw c2 ?_
 try simp (maxSteps:=9^9) only[go_sem]
 repeat refine AI ?_
 try simp (maxSteps:=9^9) only[go_sem,d0]
 refine LoopG.intro _ _ _ (fun i:Nat=>⟨[(1,.sl tVec b),(5,.row 0 0),(28,.sl tVec a),(29,.sc (.int .i64 a.length)),(30,.sc (.int .i64 i))],[(0,.row 61 tVec 0 true (smI a b i))]⟩) (fun i=>i<=a.length) (fun i=>a.length - i) 0 ?_ (Nat.zero_le _) ?_
 ·exact WK
 ·rintro i hi
  try simp (maxSteps:=9^9) only[go_sem]
  refine CondW_dec (fun hA=>?_) (fun hA=>?_)
  ·have hlt:i < a.length:=by omega
   have h25:=five_mul (i:=i) (n:=b.length) (by omega) l2
   obtain ⟨q1,q2,q3,q4⟩:=okV_b (ha.ok _ (nth_mem hlt))
   rw [<-smJ_0]
   try simp (maxSteps:=9^9) only[go_sem]
   repeat refine AI ?_
   refine LoopG.intro _ _ _ (fun j:Nat=>⟨[(1,.sl tVec b),(5,.row 0 0),(7,.ptr 1 0),(28,.sl tVec a),(29,.sc (.int .i64 a.length)),(30,.sc (.int .i64 i)),(34,.sl tVec b),(35,.sc (.int .i64 b.length)),(36,.sc (.int .i64 j))],[(1,.box [.sc (.int .i64 (nth (t:=tVec) a i).1),.sc (.int .i64 (nth (t:=tVec) a i).2)]),(0,.row 61 tVec 0 true (smJ a b i j))]⟩) (fun j=>j<=b.length) (fun j=>b.length - j) 0 ?_ (Nat.zero_le _) ?_
   ·exact WK
   ·rintro j hj
    try simp (maxSteps:=9^9) only[go_sem]
    refine CondW_dec (fun hB=>?_) (fun hB=>?_)
    ·have hlt2:j < b.length:=by omega
     have hml:=smJ_len (a:=a) (b:=b) (i:=i) (j:=j) (by omega) (by omega)
     have e:=smJ_step (a:=a) (b:=b) (i:=i) hlt2
     obtain ⟨b1,b2,b3,b4⟩:=okV_b (hb.ok _ (nth_mem hlt2))
     try simp (maxSteps:=9^9) only[go_sem,hml]
     repeat refine AI ?_
     try simp (maxSteps:=9^9) only[go_sem,hml]
     repeat refine AI ?_
     refine LoopK.mk (j+1) ?_ (by omega) (by omega)
     rw [e]
     refine Wk.mk [] ?_
     try simp (maxSteps:=9^9) only[go_sem]
     try (and_intros<;>first|rfl|omega|exact ⟨_,rfl⟩)
     all_goals (first|exact ⟨by omega,rfl⟩|exact ⟨rfl,rfl⟩)
    ·rw [smJ_all hlt (by omega)]
     try simp (maxSteps:=9^9) only[go_sem]
     repeat refine AI ?_
     refine LoopK.mk (i+1) ?_ (by omega) (by omega)
     exact WK
  ·rw [smI_all (by omega)]
   have hp:=ha.sum hb hkm
   have hsl:=smV_len a b
   have pos:0 < (smV a b).length:=by
    rw [hsl]
    have:=ha.poly.1.1
    have:=hb.poly.1.1
    exact Nat.mul_pos (by omega) (by omega)
   have c4:=specHull_fn (smV a b) (ha.sum_ok hb hkm) (by omega)
   have c5:=specIsPolygon_fn (hullD (smV a b))
   rw [polyB_t hp] at c5
   try simp (maxSteps:=9^9) only[go_sem]
   repeat refine AI ?_
   refine cw c4 ?_
   try simp (maxSteps:=9^9) only[go_sem]
   repeat refine AI ?_
   refine cw c5 ?_
   try simp (maxSteps:=9^9) only[go_sem]
def obsD (r o:List DV):List DV:=hullD (smV o (r.map negV))
theorem ObstacleForI_fn {k m:Int} (r o:List DV) (hr:SmP k r) (ho:SmP m o) (hkm:m+k<=1000):Fn Tryz.prog 69 [⟨.slice tVec,r⟩,⟨.slice tVec,o⟩] true [⟨.slice tVec,obsD r o⟩]:=by
 have c1:=NegatePolygonI_fn r hr.ok (by have:=hr.five; omega)
 have c2:=SumPolygonsI_fn o (r.map negV) ho hr.neg hkm
 unfold obsD
 refine fe Tryz.func69 Tryz.ntmps69 Tryz.results69 fun hwf=>?_
 try simp (maxSteps:=9^9) only[go_sem]
 repeat refine AI ?_
 refine cw c1 ?_
 try simp (maxSteps:=9^9) only[go_sem]
 repeat refine AI ?_
 refine cw c2 ?_
 try simp (maxSteps:=9^9) only[go_sem]
theorem ObstacleForS_fn {k m:Int} (r o:List DV) (hr:SmP k r) (ho:SmP m o) (hkm:m+k<=1000):Fn Tryz.prog 121 [⟨.slice tVec,r⟩,⟨.slice tVec,o⟩] true [⟨.slice tVec,obsD r o⟩]:=by
 have c1:=NegatePolygonS_fn r hr.ok (by have:=hr.five; omega)
 have c2:=SumPolygonsS_fn o (r.map negV) ho hr.neg hkm
 unfold obsD
 refine fe Tryz.func121 Tryz.ntmps121 Tryz.results121 fun hwf=>?_
 try simp (maxSteps:=9^9) only[go_sem]
 repeat refine AI ?_
 refine cw c1 ?_
 try simp (maxSteps:=9^9) only[go_sem]
 repeat refine AI ?_
 refine cw c2 ?_
 try simp (maxSteps:=9^9) only[go_sem]
theorem obs_poly {k m:Int} {r o:List DV} (hr:SmP k r) (ho:SmP m o) (hkm:m+k<=1000):polyP (obsD r o):=ho.sum hr.neg hkm
noncomputable def cpD (l:List DV) (p:DP):Int:=if okPt p then cntI l p l.length else -1
theorem ContainsI_fn (l:List DV) (p:DP) (hl:polyP l):Fn Tryz.prog 71 [⟨.slice tVec,l⟩,⟨tPoint,p⟩] false [⟨.int,cpD l p⟩]:=by
 have c1:=implIsPolygon_fn l
 rw [polyB_t hl] at c1
 have c2:=arePoints1_fn p
 have hn:=hl.1.2
 unfold cpD
 cases h:okPt p<;>rw [h] at c2
 ·rw [if_neg (by decide)]
  refine fe Tryz.func71 Tryz.ntmps71 Tryz.results71 fun hwf=>?_
  try simp (maxSteps:=9^9) only[go_sem]
  repeat refine AI ?_
  refine cw c1 ?_
  try simp (maxSteps:=9^9) only[go_sem]
  repeat refine AI ?_
  refine cw c2 ?_
  try simp (maxSteps:=9^9) only[go_sem]
  all_goals repeat refine AI ?_
  all_goals first|kernel_rfl|omega|rfl
 ·rw [if_pos rfl]
  have c3:=contains_fn l p hl.2.1 (by omega) h
  refine fe Tryz.func71 Tryz.ntmps71 Tryz.results71 fun hwf=>?_
  try simp (maxSteps:=9^9) only[go_sem]
  repeat refine AI ?_
  refine cw c1 ?_
  try simp (maxSteps:=9^9) only[go_sem]
  repeat refine AI ?_
  refine cw c2 ?_
  try simp (maxSteps:=9^9) only[go_sem]
  repeat refine AI ?_
  refine cw c3 ?_
  try simp (maxSteps:=9^9) only[go_sem]
  all_goals repeat refine AI ?_
  all_goals first|kernel_rfl|omega|rfl
theorem ContainsS_fn (l:List DV) (p:DP) (hl:polyP l):Fn Tryz.prog 123 [⟨.slice tVec,l⟩,⟨tPoint,p⟩] false [⟨.int,cpD l p⟩]:=by
 have c1:=specIsPolygon_fn l
 rw [polyB_t hl] at c1
 have c2:=specIsValidPoint_fn p
 have hn:=hl.1.2
 unfold cpD
 cases h:okPt p<;>rw [h] at c2
 ·rw [if_neg (by decide)]
  refine fe Tryz.func123 Tryz.ntmps123 Tryz.results123 fun hwf=>?_
  try simp (maxSteps:=9^9) only[go_sem]
  repeat refine AI ?_
  refine cw c1 ?_
  try simp (maxSteps:=9^9) only[go_sem]
  repeat refine AI ?_
  refine cw c2 ?_
  try simp (maxSteps:=9^9) only[go_sem]
  all_goals repeat refine AI ?_
  all_goals first|kernel_rfl|omega|rfl
 ·rw [if_pos rfl]
  refine fe Tryz.func123 Tryz.ntmps123 Tryz.results123 fun hwf=>?_
  try simp (maxSteps:=9^9) only[go_sem]
  repeat refine AI ?_
  refine cw c1 ?_
  try simp (maxSteps:=9^9) only[go_sem]
  repeat refine AI ?_
  refine cw c2 ?_
  try simp (maxSteps:=9^9) only[go_sem]
  refine LoopG.intro _ _ _ (fun i:Nat=>⟨[(0,.sl tVec l),(3,.ptr 0 0),(5,.sc (.int .i64 (cntI l p i))),(17,.sl tVec l),(18,.sc (.int .i64 l.length)),(19,.sc (.int .i64 i))],[(0,.box (cel tPoint p))]⟩) (fun i=>i<=l.length) (fun i=>l.length - i) 0 ?_ (Nat.zero_le _) ?_
  ·exact WK
  ·rintro i hi
   try simp (maxSteps:=9^9) only[go_sem]
   refine CondW_dec (fun hA=>?_) (fun hA=>?_)
   ·have hlt:i < l.length:=by omega
    have hr:=nxt_rng (n:=l.length) (i:=i) (by omega)
    have hr2:(nxt l.length i).toNat < l.length:=by omega
    have c3:=PointOfS_fn (nth (t:=tVec) l i)
    have c4:=PointOfS_fn (nth (t:=tVec) l (nxt l.length i).toNat)
    have c5:=specSide_fn (ptV (nth (t:=tVec) l i)) (ptV (nth (t:=tVec) l (nxt l.length i).toNat)) p
    unfold nxt at hr hr2 c4 c5
    have hst:cntI l p (i+1)=min (cntI l p i) (sdP (ptV (nth (t:=tVec) l i)) (ptV (nth (t:=tVec) l (((i:Int)+1) % (l.length:Int)).toNat)) p):=rfl
    try simp (maxSteps:=9^9) only[go_sem]
    repeat refine AI ?_
    repeat refine AI ?_
    refine cw c3 ?_
    try simp (maxSteps:=9^9) only[go_sem]
    repeat refine AI ?_
    refine RemW.pos (by omega) (by omega) ?_
    try simp (maxSteps:=9^9) only[go_sem]
    repeat refine AI ?_
    repeat refine AI ?_
    refine cw c4 ?_
    try simp (maxSteps:=9^9) only[go_sem]
    repeat refine AI ?_
    refine cw c5 ?_
    try simp (maxSteps:=9^9) only[go_sem]
    repeat refine AI ?_
    refine CondW_dec (fun hB=>?_) (fun hB=>?_)
    ·rw [Int.min_eq_right (by omega)] at hst
     try simp (maxSteps:=9^9) only[go_sem]
     repeat refine AI ?_
     refine LoopK.mk (i+1) ?_ (by omega) (by omega)
     rw [hst]
     exact WK
    ·rw [Int.min_eq_left (by omega)] at hst
     try simp (maxSteps:=9^9) only[go_sem]
     repeat refine AI ?_
     refine LoopK.mk (i+1) ?_ (by omega) (by omega)
     rw [hst]
     exact WK
   ·rw [show l.length=i by omega]
    try simp (maxSteps:=9^9) only[go_sem]
    all_goals repeat refine AI ?_
    all_goals first|kernel_rfl|omega|rfl
end Go.Proofs.YtbnkojgcbmfloaaGreat.DW

namespace Go.Proofs.YtbnkojgcbmfloaaGreat
open Go.RowKit
set_option maxHeartbeats 400000 in
theorem l04List_any (va vb:Value) (a b:DIntS) (w:World) (ha:Has RIntS w [va] a) (hb:Has RIntS w [vb] b) :
  Calls Tryz.prog 202 #[va,vb] w (Post (EqPost a b w)):=by
 obtain ⟨aa,ca,rfl,la,ma,ga⟩:=ha.elems
 obtain ⟨ab,cb,rfl,lb,mb,gb⟩:=hb.elems
 unfold maxLen at ma mb
 have HA:=Lib.hid ga; have HB:=Lib.hid gb; clear ga gb ha hb
 by_cases hl:a.length=b.length
 rotate_left
 ·have hn:((a.length:Int) != (b.length:Int))=true:=by simp; omega
  have HL:=Lib.hid hl; clear hl
  go_enter Tryz.func202,Tryz.ntmps202
  go_wp2
  go_ret
  exact ⟨_,rfl,congrArg Value.bool (eqb_false fun h=>HL.out (by rw [h])).symm,Below.refl _ _⟩
 have hn:((a.length:Int) != (b.length:Int))=false:=by simp; omega
 have HL:=Lib.hid hl; clear hl
 go_enter Tryz.func202,Tryz.ntmps202
 go_wp2
 go_loopw [13] (fun i wr=>∃ k:Nat,k<=a.length/\i=.int .i64 k/\a.take k=b.take k/\Below w.heap.size w wr) (fun i _=>a.length - (intOf i).toNat)
 case atStart=>exact ⟨0,Nat.zero_le _,rfl,rfl,Below.refl _ _⟩
 case round =>
  obtain ⟨k,hk,rfl,htk,hbw⟩:=hrel
  have HT:=Lib.hid htk; clear htk
  by_cases hlt:k < a.length
  rotate_left
  ·go_wp2
   go_ret
   exact ⟨_,rfl,congrArg Value.bool (eqb_true (by have h1:=HT.out; have h2:=HL.out; rwa [List.take_of_length_le (by omega),List.take_of_length_le (by omega)] at h1)).symm,hbw⟩
  have hlt':k < b.length:=by have:=HL.out; omega
  obtain ⟨b1,o1,cs1,rfl,hbl,hx,hcs⟩:=HA.out k hlt
  obtain ⟨b2,o2,cs2,rfl,hbl2,hy,hds⟩:=HB.out k hlt'
  obtain ⟨c0,rfl⟩:=list1 hx.len
  obtain ⟨d0,rfl⟩:=list1 hy.len
  obtain rfl:=hx.int.1
  obtain rfl:=hy.int.1
  have g0:wr.cell? ⟨b1,o1+k,none⟩=some (.int .i64 a[k]):=(hbw.cell (p:=⟨b1,_,none⟩) hbl).trans (by simpa [Rp.int] using hcs 0 _ rfl)
  have e0:wr.cell? ⟨b2,o2+k,none⟩=some (.int .i64 b[k]):=(hbw.cell (p:=⟨b2,_,none⟩) hbl2).trans (by simpa [Rp.int] using hds 0 _ rfl)
  clear hcs hds hx hy
  by_cases hab:a[k]=b[k]
  ·have hn:(a[k] != b[k])=false:=by simp [hab]
   have HAB:=Lib.hid hab; clear hab
   go_wp2
   go_quiet (fail)
   go_wp2
   go_roundw
   case rel=>exact ⟨k+1,by omega,by go_num,by rw [List.take_succ_eq_append_getElem hlt,List.take_succ_eq_append_getElem hlt',HT.out,HAB.out],hbw.drewN _⟩
   case measure=>simp [intOf]; omega
  ·have hn:(a[k] != b[k])=true:=by simp [hab]
   have HAB:=Lib.hid hab; clear hab
   go_wp2
   go_quiet (fail)
   go_wp2
   go_ret
   exact ⟨_,rfl,congrArg Value.bool (eqb_false fun h=>HAB.out (by subst h; rfl)).symm,hbw.drewN _⟩
set_option maxHeartbeats 400000 in
theorem slicesEqual_any (va vb:Value) (a b:DIntS) (w:World) (ha:Has RIntS w [va] a) (hb:Has RIntS w [vb] b) :
  Calls Tryz.prog 113 #[va,vb] w (Post (EqPost a b w)):=by
 obtain ⟨aa,ca,rfl,la,ma,ga⟩:=ha.elems
 obtain ⟨ab,cb,rfl,lb,mb,gb⟩:=hb.elems
 unfold maxLen at ma mb
 have HA:=Lib.hid ga; have HB:=Lib.hid gb; clear ga gb ha hb
 by_cases hl:a.length=b.length
 rotate_left
 ·have hn:((a.length:Int) != (b.length:Int))=true:=by simp; omega
  have HL:=Lib.hid hl; clear hl
  go_enter Tryz.func113,Tryz.ntmps113
  go_wp2
  go_ret
  exact ⟨_,rfl,congrArg Value.bool (eqb_false fun h=>HL.out (by rw [h])).symm,Below.refl _ _⟩
 have hn:((a.length:Int) != (b.length:Int))=false:=by simp; omega
 have HL:=Lib.hid hl; clear hl
 go_enter Tryz.func113,Tryz.ntmps113
 go_wp2
 go_loopw [13] (fun i wr=>∃ k:Nat,k<=a.length/\i=.int .i64 k/\a.take k=b.take k/\Below w.heap.size w wr) (fun i _=>a.length - (intOf i).toNat)
 case atStart=>exact ⟨0,Nat.zero_le _,rfl,rfl,Below.refl _ _⟩
 case round =>
  obtain ⟨k,hk,rfl,htk,hbw⟩:=hrel
  have HT:=Lib.hid htk; clear htk
  by_cases hlt:k < a.length
  rotate_left
  ·go_wp2
   go_ret
   exact ⟨_,rfl,congrArg Value.bool (eqb_true (by have h1:=HT.out; have h2:=HL.out; rwa [List.take_of_length_le (by omega),List.take_of_length_le (by omega)] at h1)).symm,hbw⟩
  have hlt':k < b.length:=by have:=HL.out; omega
  obtain ⟨b1,o1,cs1,rfl,hbl,hx,hcs⟩:=HA.out k hlt
  obtain ⟨b2,o2,cs2,rfl,hbl2,hy,hds⟩:=HB.out k hlt'
  obtain ⟨c0,rfl⟩:=list1 hx.len
  obtain ⟨d0,rfl⟩:=list1 hy.len
  obtain rfl:=hx.int.1
  obtain rfl:=hy.int.1
  have g0:wr.cell? ⟨b1,o1+k,none⟩=some (.int .i64 a[k]):=(hbw.cell (p:=⟨b1,_,none⟩) hbl).trans (by simpa [Rp.int] using hcs 0 _ rfl)
  have e0:wr.cell? ⟨b2,o2+k,none⟩=some (.int .i64 b[k]):=(hbw.cell (p:=⟨b2,_,none⟩) hbl2).trans (by simpa [Rp.int] using hds 0 _ rfl)
  clear hcs hds hx hy
  by_cases hab:a[k]=b[k]
  ·have hn:(a[k] != b[k])=false:=by simp [hab]
   have HAB:=Lib.hid hab; clear hab
   go_wp2
   go_quiet (fail)
   go_wp2
   go_roundw
   case rel=>exact ⟨k+1,by omega,by go_num,by rw [List.take_succ_eq_append_getElem hlt,List.take_succ_eq_append_getElem hlt',HT.out,HAB.out],hbw.drewN _⟩
   case measure=>simp [intOf]; omega
  ·have hn:(a[k] != b[k])=true:=by simp [hab]
   have HAB:=Lib.hid hab; clear hab
   go_wp2
   go_quiet (fail)
   go_wp2
   go_ret
   exact ⟨_,rfl,congrArg Value.bool (eqb_false fun h=>HAB.out (by subst h; rfl)).symm,hbw.drewN _⟩
set_option maxHeartbeats 400000 in
theorem specRatEqual_any (c0 c1 c2 d0 d1 d2:Value) (x y:DRat) (w:World) (hx:Has RRat w [c0,c1,c2] x) (hy:Has RRat w [d0,d1,d2] y) :
  Calls Tryz.prog 159 #[.agg #[c0,c1,c2],.agg #[d0,d1,d2]] w (Post (EqPost x y w)):=by
 obtain ⟨hx0,hx1⟩:=hx.split [c0,c1] [c2] rfl
 obtain ⟨hx00,hx01⟩:=hx0.split [c0] [c1] rfl
 obtain ⟨hy0,hy1⟩:=hy.split [d0,d1] [d2] rfl
 obtain ⟨hy00,hy01⟩:=hy0.split [d0] [d1] rfl
 obtain rfl:=hx00.bool
 obtain rfl:=hy00.bool
 have HX1:=Lib.hid hx1; have HX2:=Lib.hid hx01; have HY1:=Lib.hid hy1; have HY2:=Lib.hid hy01
 clear hx hy hx0 hx1 hy0 hy1 hx00 hx01 hy00 hy01
 have hb0:=((Below.refl w.heap.size w).alloc (Nat.le_refl _) (Obj.cells #[.bool x.1.1,c1,c2] 31)).alloc (by simp<;>omega) (Obj.cells #[.bool y.1.1,d1,d2] 31)
 by_cases he0:x.1.1=y.1.1
 rotate_left
 ·have hn:(x.1.1 == y.1.1)=false:=by simp [he0]
  have HN:=Lib.hid he0; clear he0
  go_enter Tryz.func159,Tryz.ntmps159
  go_wp2
  go_ret
  exact ⟨_,rfl,congrArg Value.bool (eqb_false fun h=>HN.out (by rw [h])).symm,hb0⟩
 have hn0:(x.1.1 == y.1.1)=true:=by simp [he0]
 have HE0:=Lib.hid he0; clear he0
 go_enter Tryz.func159,Tryz.ntmps159
 go_wp2_with fail
 refine (l04List_any _ _ _ _ _ (HX2.out.below hb0) (HY2.out.below hb0)).mono ?_
 rintro e w1 ⟨v,rfl,rfl,hbx1⟩
 have hb1:=Below.up hb0 hbx1 hb0.size
 obtain ⟨hc1,hf1⟩:=bcell hbx1
 by_cases he1:x.1.2=y.1.2
 rotate_left
 ·rw [eqb_false he1]
  have HN:=Lib.hid he1; clear he1
  go_wp2
  go_ret
  exact ⟨_,rfl,congrArg Value.bool (eqb_false fun h=>HN.out (by rw [h])).symm,hb1⟩
 rw [eqb_true he1]
 have HE1:=Lib.hid he1; clear he1
 go_wp2_with fail
 refine (l04List_any _ _ _ _ _ (HX1.out.below hb1) (HY1.out.below hb1)).mono ?_
 rintro e w2 ⟨v,rfl,rfl,hbx2⟩
 have hb2:=Below.up hb1 hbx2 hb1.size
 by_cases he2:x.2=y.2
 rotate_left
 ·rw [eqb_false he2]
  have HN:=Lib.hid he2; clear he2
  go_wp2
  go_ret
  exact ⟨_,rfl,congrArg Value.bool (eqb_false fun h=>HN.out (by rw [h])).symm,hb2⟩
 rw [eqb_true he2]
 have HE2:=Lib.hid he2; clear he2
 go_wp2
 go_ret
 exact ⟨_,rfl,congrArg Value.bool (eqb_true (Prod.ext (Prod.ext HE0.out HE1.out) HE2.out)).symm,hb2⟩
set_option maxHeartbeats 400000 in
theorem implRatEqual_any (c0 c1 c2 d0 d1 d2:Value) (x y:DRat) (w:World) (hx:Has RRat w [c0,c1,c2] x) (hy:Has RRat w [d0,d1,d2] y) :
  Calls Tryz.prog 78 #[.agg #[c0,c1,c2],.agg #[d0,d1,d2]] w (Post (EqPost x y w)):=by
 obtain ⟨hx0,hx1⟩:=hx.split [c0,c1] [c2] rfl
 obtain ⟨hx00,hx01⟩:=hx0.split [c0] [c1] rfl
 obtain ⟨hy0,hy1⟩:=hy.split [d0,d1] [d2] rfl
 obtain ⟨hy00,hy01⟩:=hy0.split [d0] [d1] rfl
 obtain rfl:=hx00.bool
 obtain rfl:=hy00.bool
 have HX1:=Lib.hid hx1; have HX2:=Lib.hid hx01; have HY1:=Lib.hid hy1; have HY2:=Lib.hid hy01
 clear hx hy hx0 hx1 hy0 hy1 hx00 hx01 hy00 hy01
 have hb0:=((Below.refl w.heap.size w).alloc (Nat.le_refl _) (Obj.cells #[.bool x.1.1,c1,c2] 31)).alloc (by simp<;>omega) (Obj.cells #[.bool y.1.1,d1,d2] 31)
 by_cases he0:x.1.1=y.1.1
 rotate_left
 ·have hn:(x.1.1 == y.1.1)=false:=by simp [he0]
  have HN:=Lib.hid he0; clear he0
  go_enter Tryz.func78,Tryz.ntmps78
  go_wp2
  go_ret
  exact ⟨_,rfl,congrArg Value.bool (eqb_false fun h=>HN.out (by rw [h])).symm,hb0⟩
 have hn0:(x.1.1 == y.1.1)=true:=by simp [he0]
 have HE0:=Lib.hid he0; clear he0
 go_enter Tryz.func78,Tryz.ntmps78
 go_wp2_with fail
 refine (slicesEqual_any _ _ _ _ _ (HX2.out.below hb0) (HY2.out.below hb0)).mono ?_
 rintro e w1 ⟨v,rfl,rfl,hbx1⟩
 have hb1:=Below.up hb0 hbx1 hb0.size
 obtain ⟨hc1,hf1⟩:=bcell hbx1
 by_cases he1:x.1.2=y.1.2
 rotate_left
 ·rw [eqb_false he1]
  have HN:=Lib.hid he1; clear he1
  go_wp2
  go_ret
  exact ⟨_,rfl,congrArg Value.bool (eqb_false fun h=>HN.out (by rw [h])).symm,hb1⟩
 rw [eqb_true he1]
 have HE1:=Lib.hid he1; clear he1
 go_wp2_with fail
 refine (slicesEqual_any _ _ _ _ _ (HX1.out.below hb1) (HY1.out.below hb1)).mono ?_
 rintro e w2 ⟨v,rfl,rfl,hbx2⟩
 have hb2:=Below.up hb1 hbx2 hb1.size
 by_cases he2:x.2=y.2
 rotate_left
 ·rw [eqb_false he2]
  have HN:=Lib.hid he2; clear he2
  go_wp2
  go_ret
  exact ⟨_,rfl,congrArg Value.bool (eqb_false fun h=>HN.out (by rw [h])).symm,hb2⟩
 rw [eqb_true he2]
 have HE2:=Lib.hid he2; clear he2
 go_wp2
 go_ret
 exact ⟨_,rfl,congrArg Value.bool (eqb_true (Prod.ext (Prod.ext HE0.out HE1.out) HE2.out)).symm,hb2⟩
set_option maxHeartbeats 400000 in
theorem specSamePoint_any (c0 c1 c2 c3 c4 c5 d0 d1 d2 d3 d4 d5:Value) (x y:DPoint) (w:World) (hx:Has RPoint w [c0,c1,c2,c3,c4,c5] x) (hy:Has RPoint w [d0,d1,d2,d3,d4,d5] y) :
  Calls Tryz.prog 119 #[.agg #[c0,c1,c2,c3,c4,c5],.agg #[d0,d1,d2,d3,d4,d5]] w (Post (EqPost x y w)):=by
 obtain ⟨hx0,hx1⟩:=hx.split [c0,c1,c2] [c3,c4,c5] rfl
 obtain ⟨hy0,hy1⟩:=hy.split [d0,d1,d2] [d3,d4,d5] rfl
 have HX0:=Lib.hid hx0; have HX1:=Lib.hid hx1; have HY0:=Lib.hid hy0; have HY1:=Lib.hid hy1
 clear hx hy hx0 hx1 hy0 hy1
 have hb0:=((Below.refl w.heap.size w).alloc (Nat.le_refl _) (Obj.cells #[c0,c1,c2,c3,c4,c5] 33)).alloc (by simp<;>omega) (Obj.cells #[d0,d1,d2,d3,d4,d5] 33)
 go_enter Tryz.func119,Tryz.ntmps119
 go_wp2_with fail
 refine (specRatEqual_any _ _ _ _ _ _ _ _ _ (HX0.out.below hb0) (HY0.out.below hb0)).mono ?_
 rintro e w1 ⟨v,rfl,rfl,hbx1⟩
 have hb1:=Below.up hb0 hbx1 hb0.size
 obtain ⟨hc1,hf1⟩:=bcell hbx1
 by_cases he1:x.1=y.1
 rotate_left
 ·rw [eqb_false he1]
  have HN:=Lib.hid he1; clear he1
  go_wp2
  go_ret
  exact ⟨_,rfl,congrArg Value.bool (eqb_false fun h=>HN.out (by rw [h])).symm,hb1⟩
 rw [eqb_true he1]
 have HE1:=Lib.hid he1; clear he1
 go_wp2_with fail
 refine (specRatEqual_any _ _ _ _ _ _ _ _ _ (HX1.out.below hb1) (HY1.out.below hb1)).mono ?_
 rintro e w2 ⟨v,rfl,rfl,hbx2⟩
 have hb2:=Below.up hb1 hbx2 hb1.size
 by_cases he2:x.2=y.2
 rotate_left
 ·rw [eqb_false he2]
  have HN:=Lib.hid he2; clear he2
  go_wp2
  go_ret
  exact ⟨_,rfl,congrArg Value.bool (eqb_false fun h=>HN.out (by rw [h])).symm,hb2⟩
 rw [eqb_true he2]
 have HE2:=Lib.hid he2; clear he2
 go_wp2
 go_ret
 exact ⟨_,rfl,congrArg Value.bool (eqb_true (Prod.ext HE1.out HE2.out)).symm,hb2⟩
set_option maxHeartbeats 400000 in
theorem implSamePoint_any (c0 c1 c2 c3 c4 c5 d0 d1 d2 d3 d4 d5:Value) (x y:DPoint) (w:World) (hx:Has RPoint w [c0,c1,c2,c3,c4,c5] x) (hy:Has RPoint w [d0,d1,d2,d3,d4,d5] y) :
  Calls Tryz.prog 48 #[.agg #[c0,c1,c2,c3,c4,c5],.agg #[d0,d1,d2,d3,d4,d5]] w (Post (EqPost x y w)):=by
 obtain ⟨hx0,hx1⟩:=hx.split [c0,c1,c2] [c3,c4,c5] rfl
 obtain ⟨hy0,hy1⟩:=hy.split [d0,d1,d2] [d3,d4,d5] rfl
 have HX0:=Lib.hid hx0; have HX1:=Lib.hid hx1; have HY0:=Lib.hid hy0; have HY1:=Lib.hid hy1
 clear hx hy hx0 hx1 hy0 hy1
 have hb0:=((Below.refl w.heap.size w).alloc (Nat.le_refl _) (Obj.cells #[c0,c1,c2,c3,c4,c5] 33)).alloc (by simp<;>omega) (Obj.cells #[d0,d1,d2,d3,d4,d5] 33)
 go_enter Tryz.func48,Tryz.ntmps48
 go_wp2_with fail
 refine (implRatEqual_any _ _ _ _ _ _ _ _ _ (HX0.out.below hb0) (HY0.out.below hb0)).mono ?_
 rintro e w1 ⟨v,rfl,rfl,hbx1⟩
 have hb1:=Below.up hb0 hbx1 hb0.size
 obtain ⟨hc1,hf1⟩:=bcell hbx1
 by_cases he1:x.1=y.1
 rotate_left
 ·rw [eqb_false he1]
  have HN:=Lib.hid he1; clear he1
  go_wp2
  go_ret
  exact ⟨_,rfl,congrArg Value.bool (eqb_false fun h=>HN.out (by rw [h])).symm,hb1⟩
 rw [eqb_true he1]
 have HE1:=Lib.hid he1; clear he1
 go_wp2_with fail
 refine (implRatEqual_any _ _ _ _ _ _ _ _ _ (HX1.out.below hb1) (HY1.out.below hb1)).mono ?_
 rintro e w2 ⟨v,rfl,rfl,hbx2⟩
 have hb2:=Below.up hb1 hbx2 hb1.size
 by_cases he2:x.2=y.2
 rotate_left
 ·rw [eqb_false he2]
  have HN:=Lib.hid he2; clear he2
  go_wp2
  go_ret
  exact ⟨_,rfl,congrArg Value.bool (eqb_false fun h=>HN.out (by rw [h])).symm,hb2⟩
 rw [eqb_true he2]
 have HE2:=Lib.hid he2; clear he2
 go_wp2
 go_ret
 exact ⟨_,rfl,congrArg Value.bool (eqb_true (Prod.ext HE1.out HE2.out)).symm,hb2⟩
end Go.Proofs.YtbnkojgcbmfloaaGreat

namespace Go.Proofs.YtbnkojgcbmfloaaGreat.DW
open Go.RowKit
abbrev DT:Type:=List DV × (DS × List DS)
theorem implSame_fn (p q:DP):Fn Tryz.prog 48 [⟨tPoint,p⟩,⟨tPoint,q⟩] false [⟨.bool,eqb p q⟩]:=by
 refine Fn.ofEq (enters Tryz.func48 rfl rfl) fun w v cs u ds hp hx hq hy=>?_
 obtain rfl:=pk_agg rfl hp
 obtain ⟨c0,c1,c2,c3,c4,c5,rfl⟩:=list6 hx.len
 obtain rfl:=pk_agg rfl hq
 obtain ⟨d0,d1,d2,d3,d4,d5,rfl⟩:=list6 hy.len
 exact implSamePoint_any _ _ _ _ _ _ _ _ _ _ _ _ p q w hx hy
theorem specSame_fn (p q:DP):Fn Tryz.prog 119 [⟨tPoint,p⟩,⟨tPoint,q⟩] false [⟨.bool,eqb p q⟩]:=by
 refine Fn.ofEq (enters Tryz.func119 rfl rfl) fun w v cs u ds hp hx hq hy=>?_
 obtain rfl:=pk_agg rfl hp
 obtain ⟨c0,c1,c2,c3,c4,c5,rfl⟩:=list6 hx.len
 obtain rfl:=pk_agg rfl hq
 obtain ⟨d0,d1,d2,d3,d4,d5,rfl⟩:=list6 hy.len
 exact specSamePoint_any _ _ _ _ _ _ _ _ _ _ _ _ p q w hx hy
theorem l22Turn_fn (n:Int):Fn Tryz.prog 118 [⟨.int,n⟩] false [⟨.bool,decide (-1<=n/\n<=1)⟩]:=by
 refine fe Tryz.func118 Tryz.ntmps118 Tryz.results118 fun hwf=>?_
 try simp (maxSteps:=9^9) only[go_sem]
 repeat refine AI ?_
 refine cw (l01In_fn n (-1) 1) ?_
 try simp (maxSteps:=9^9) only[go_sem]
noncomputable def tvStep (p x:DS):Bool:=decide (-1<=x.1/\x.1<=1) && (okPt x.2 && (decide (x.1=0) || eqb x.2 p.2))
noncomputable def tvGo:DS->List DS->Bool
 | _,[]=>true
 | p,x :: l=>tvStep p x && tvGo (stp p x) l
noncomputable def plcF (p:DS) (l:List DS):DS:=l.foldl stp p
noncomputable def plcS (p:DS) (l:List DS) (i:Nat):DS:=plcF p (l.take i)
theorem plcS_step (p:DS) {l:List DS} {i:Nat} (h:i < l.length):plcS p l (i+1)=stp (plcS p l i) (nth (t:=tStep) l i):=by
 unfold plcS plcF
 rw [List.take_succ_eq_append_getElem h,nth_lt h]
 simp only [List.foldl_append,List.foldl_cons,List.foldl_nil]
theorem tvGo_at {p:DS} {l:List DS} {i:Nat} (h:i < l.length):tvGo p (l.drop i)=(tvStep p (nth (t:=tStep) l i) && tvGo (stp p (nth (t:=tStep) l i)) (l.drop (i+1))):=by
 rw [List.drop_eq_getElem_cons h,nth_lt h]; rfl
noncomputable def tourB (t:DT):Bool:=smB t.1 20 && (decide (0<=t.2.1.1/\t.2.1.1<=3) && (okPt t.2.1.2 && (decide ((t.2.2.length:Int)<=8) && tvGo t.2.1 t.2.2)))
theorem implIsValidTour_fn (t:DT):Fn Tryz.prog 15 [⟨tTour,t⟩] false [⟨.bool,tourB t⟩]:=by
 obtain ⟨r,p,l⟩:=t
 have c1:=isSmall_fn r 20 (by decide)
 have c2:=isHeading_fn p.1
 have c3:=arePoints1_fn p.2
 unfold tourB
 cases h1:smB r 20<;>rw [h1] at c1
 ·refine fe Tryz.func15 Tryz.ntmps15 Tryz.results15 fun hwf=>?_
  try simp (maxSteps:=9^9) only[go_sem]
  repeat refine AI ?_
  refine cw c1 ?_
  try simp (maxSteps:=9^9) only[go_sem]
 ·cases h2:decide (0<=p.1/\p.1<=3)<;>rw [h2] at c2
  ·refine fe Tryz.func15 Tryz.ntmps15 Tryz.results15 fun hwf=>?_
   try simp (maxSteps:=9^9) only[go_sem]
   repeat refine AI ?_
   refine cw c1 ?_
   try simp (maxSteps:=9^9) only[go_sem]
   repeat refine AI ?_
   refine cw c2 ?_
   try simp (maxSteps:=9^9) only[go_sem]
  ·cases h3:okPt p.2<;>rw [h3] at c3
   ·refine fe Tryz.func15 Tryz.ntmps15 Tryz.results15 fun hwf=>?_
    try simp (maxSteps:=9^9) only[go_sem]
    repeat refine AI ?_
    refine cw c1 ?_
    try simp (maxSteps:=9^9) only[go_sem]
    repeat refine AI ?_
    refine cw c2 ?_
    try simp (maxSteps:=9^9) only[go_sem]
    repeat refine AI ?_
    refine cw c3 ?_
    try simp (maxSteps:=9^9) only[go_sem]
   ·by_cases h4:(l.length:Int)<=8
    ·have d4:decide ((8:Int) < l.length)=false:=decide_eq_false (by omega)
     rw [decide_eq_true h4]
     refine fe Tryz.func15 Tryz.ntmps15 Tryz.results15 fun hwf=>?_
     try simp (maxSteps:=9^9) only[go_sem]
     repeat refine AI ?_
     refine cw c1 ?_
     try simp (maxSteps:=9^9) only[go_sem]
     repeat refine AI ?_
     refine cw c2 ?_
     try simp (maxSteps:=9^9) only[go_sem]
     repeat refine AI ?_
     refine cw c3 ?_
     try simp (maxSteps:=9^9) only[go_sem]
     try simp (maxSteps:=9^9) only[go_sem,d4]
     refine LoopG.intro _ _ _ (fun i:Nat=>⟨[(3,.ptr 2 0),(34,.sl tStep l),(35,.sc (.int .i64 l.length)),(36,.sc (.int .i64 i))],[(2,.box [.sc (.int .i64 (plcS p l i).1),.sc (.bool (plcS p l i).2.1.1.1),.sl .int (plcS p l i).2.1.1.2,.sl .int (plcS p l i).2.1.2,.sc (.bool (plcS p l i).2.2.1.1),.sl .int (plcS p l i).2.2.1.2,.sl .int (plcS p l i).2.2.2])]⟩) (fun i=>tvGo p l=tvGo (plcS p l i) (l.drop i)) (fun i=>l.length - i) 0 ?_ rfl ?_
     ·exact WK
     ·rintro i hi
      try simp (maxSteps:=9^9) only[go_sem]
      refine CondW_dec (fun hA=>?_) (fun hA=>?_)
      ·have hst:=plcS_step p (show i < l.length by omega)
       rw [tvGo_at (by omega)] at hi
       have c4:=within_fn (nth (t:=tStep) l i).1 (-1) 1
       have c5:=arePoints1_fn (nth (t:=tStep) l i).2
       have c6:=implSame_fn (nth (t:=tStep) l i).2 (plcS p l i).2
       have c7:=stepped_fn (plcS p l i) (nth (t:=tStep) l i)
       generalize hq:plcS p l i=q at hi hst c6 c7 ⊢
       cases e1:decide (-1<=(nth (t:=tStep) l i).1/\(nth (t:=tStep) l i).1<=1)<;>rw [e1] at c4
       ·have e0:tvStep q (nth (t:=tStep) l i)=false:=by unfold tvStep; rw [e1]; rfl
        rw [e0] at hi
        rw [hi]
        try simp (maxSteps:=9^9) only[go_sem]
        repeat refine AI ?_
        repeat refine AI ?_
        refine cw c4 ?_
        try simp (maxSteps:=9^9) only[go_sem]
       ·cases e2:okPt (nth (t:=tStep) l i).2<;>rw [e2] at c5
        ·have e0:tvStep q (nth (t:=tStep) l i)=false:=by unfold tvStep; rw [e1,e2]; rfl
         rw [e0] at hi
         rw [hi]
         try simp (maxSteps:=9^9) only[go_sem]
         repeat refine AI ?_
         repeat refine AI ?_
         refine cw c4 ?_
         try simp (maxSteps:=9^9) only[go_sem]
         repeat refine AI ?_
         refine cw c5 ?_
         try simp (maxSteps:=9^9) only[go_sem]
        ·by_cases e3:(nth (t:=tStep) l i).1=0
         ·have e0:tvStep q (nth (t:=tStep) l i)=true:=by unfold tvStep; rw [e1,e2,decide_eq_true e3]; rfl
          have d3:=decide_eq_true e3
          rw [e0,Bool.true_and,<-hst] at hi
          try simp (maxSteps:=9^9) only[go_sem]
          repeat refine AI ?_
          repeat refine AI ?_
          refine cw c4 ?_
          try simp (maxSteps:=9^9) only[go_sem]
          repeat refine AI ?_
          refine cw c5 ?_
          try simp (maxSteps:=9^9) only[go_sem]
          try simp (maxSteps:=9^9) only[go_sem,d3]
          repeat refine AI ?_
          refine cw c7 ?_
          try simp (maxSteps:=9^9) only[go_sem]
          repeat refine AI ?_
          refine LoopK.mk (i+1) ?_ hi (by omega)
          rw [hst]
          exact WK
         ·have d3:=decide_eq_false e3
          cases e4:eqb (nth (t:=tStep) l i).2 q.2<;>rw [e4] at c6
          ·have e0:tvStep q (nth (t:=tStep) l i)=false:=by unfold tvStep; rw [e1,e2,d3,e4]; rfl
           rw [e0] at hi
           rw [hi]
           try simp (maxSteps:=9^9) only[go_sem]
           repeat refine AI ?_
           repeat refine AI ?_
           refine cw c4 ?_
           try simp (maxSteps:=9^9) only[go_sem]
           repeat refine AI ?_
           refine cw c5 ?_
           try simp (maxSteps:=9^9) only[go_sem]
           try simp (maxSteps:=9^9) only[go_sem,d3]
           repeat refine AI ?_
           refine cw c6 ?_
           try simp (maxSteps:=9^9) only[go_sem]
          ·have e0:tvStep q (nth (t:=tStep) l i)=true:=by unfold tvStep; rw [e1,e2,d3,e4]; rfl
           rw [e0,Bool.true_and,<-hst] at hi
           try simp (maxSteps:=9^9) only[go_sem]
           repeat refine AI ?_
           repeat refine AI ?_
           refine cw c4 ?_
           try simp (maxSteps:=9^9) only[go_sem]
           repeat refine AI ?_
           refine cw c5 ?_
           try simp (maxSteps:=9^9) only[go_sem]
           try simp (maxSteps:=9^9) only[go_sem,d3]
           repeat refine AI ?_
           refine cw c6 ?_
           try simp (maxSteps:=9^9) only[go_sem]
           repeat refine AI ?_
           refine cw c7 ?_
           try simp (maxSteps:=9^9) only[go_sem]
           repeat refine AI ?_
           refine LoopK.mk (i+1) ?_ hi (by omega)
           rw [hst]
           exact WK
      ·rw [hi,List.drop_eq_nil_of_le (by omega),show tvGo (plcS p l i) []=true from rfl]
       try simp (maxSteps:=9^9) only[go_sem]
    ·have d4:decide ((8:Int) < l.length)=true:=decide_eq_true (by omega)
     rw [decide_eq_false h4]
     refine fe Tryz.func15 Tryz.ntmps15 Tryz.results15 fun hwf=>?_
     try simp (maxSteps:=9^9) only[go_sem]
     repeat refine AI ?_
     refine cw c1 ?_
     try simp (maxSteps:=9^9) only[go_sem]
     repeat refine AI ?_
     refine cw c2 ?_
     try simp (maxSteps:=9^9) only[go_sem]
     repeat refine AI ?_
     refine cw c3 ?_
     try simp (maxSteps:=9^9) only[go_sem]
     try simp (maxSteps:=9^9) only[go_sem,d4]
theorem specIsValidTour_fn (t:DT):Fn Tryz.prog 83 [⟨tTour,t⟩] false [⟨.bool,tourB t⟩]:=by
 obtain ⟨r,p,l⟩:=t
 have c1:=l10Shape_fn r 20 (by decide)
 have c2:=l01In_fn p.1 0 3
 have c3:=specIsValidPoint_fn p.2
 unfold tourB
 cases h1:smB r 20<;>rw [h1] at c1
 ·refine fe Tryz.func83 Tryz.ntmps83 Tryz.results83 fun hwf=>?_
  try simp (maxSteps:=9^9) only[go_sem]
  repeat refine AI ?_
  refine cw c1 ?_
  try simp (maxSteps:=9^9) only[go_sem]
 ·cases h2:decide (0<=p.1/\p.1<=3)<;>rw [h2] at c2
  ·refine fe Tryz.func83 Tryz.ntmps83 Tryz.results83 fun hwf=>?_
   try simp (maxSteps:=9^9) only[go_sem]
   repeat refine AI ?_
   refine cw c1 ?_
   try simp (maxSteps:=9^9) only[go_sem]
   repeat refine AI ?_
   refine cw c2 ?_
   try simp (maxSteps:=9^9) only[go_sem]
  ·cases h3:okPt p.2<;>rw [h3] at c3
   ·refine fe Tryz.func83 Tryz.ntmps83 Tryz.results83 fun hwf=>?_
    try simp (maxSteps:=9^9) only[go_sem]
    repeat refine AI ?_
    refine cw c1 ?_
    try simp (maxSteps:=9^9) only[go_sem]
    repeat refine AI ?_
    refine cw c2 ?_
    try simp (maxSteps:=9^9) only[go_sem]
    repeat refine AI ?_
    refine cw c3 ?_
    try simp (maxSteps:=9^9) only[go_sem]
   ·by_cases h4:(l.length:Int)<=8
    ·have d4:decide ((8:Int) < l.length)=false:=decide_eq_false (by omega)
     rw [decide_eq_true h4]
     refine fe Tryz.func83 Tryz.ntmps83 Tryz.results83 fun hwf=>?_
     try simp (maxSteps:=9^9) only[go_sem]
     repeat refine AI ?_
     refine cw c1 ?_
     try simp (maxSteps:=9^9) only[go_sem]
     repeat refine AI ?_
     refine cw c2 ?_
     try simp (maxSteps:=9^9) only[go_sem]
     repeat refine AI ?_
     refine cw c3 ?_
     try simp (maxSteps:=9^9) only[go_sem]
     try simp (maxSteps:=9^9) only[go_sem,d4]
     refine LoopG.intro _ _ _ (fun i:Nat=>⟨[(3,.ptr 1 0),(33,.sl tStep l),(34,.sc (.int .i64 l.length)),(35,.sc (.int .i64 i))],[(1,.box [.sc (.int .i64 (plcS p l i).1),.sc (.bool (plcS p l i).2.1.1.1),.sl .int (plcS p l i).2.1.1.2,.sl .int (plcS p l i).2.1.2,.sc (.bool (plcS p l i).2.2.1.1),.sl .int (plcS p l i).2.2.1.2,.sl .int (plcS p l i).2.2.2])]⟩) (fun i=>tvGo p l=tvGo (plcS p l i) (l.drop i)) (fun i=>l.length - i) 0 ?_ rfl ?_
     ·exact WK
     ·rintro i hi
      try simp (maxSteps:=9^9) only[go_sem]
      refine CondW_dec (fun hA=>?_) (fun hA=>?_)
      ·have hst:=plcS_step p (show i < l.length by omega)
       rw [tvGo_at (by omega)] at hi
       have c4:=l22Turn_fn (nth (t:=tStep) l i).1
       have c5:=specIsValidPoint_fn (nth (t:=tStep) l i).2
       have c6:=specSame_fn (nth (t:=tStep) l i).2 (plcS p l i).2
       have c7:=l22After_fn (plcS p l i) (nth (t:=tStep) l i)
       generalize hq:plcS p l i=q at hi hst c6 c7 ⊢
       cases e1:decide (-1<=(nth (t:=tStep) l i).1/\(nth (t:=tStep) l i).1<=1)<;>rw [e1] at c4
       ·have e0:tvStep q (nth (t:=tStep) l i)=false:=by unfold tvStep; rw [e1]; rfl
        rw [e0] at hi
        rw [hi]
        try simp (maxSteps:=9^9) only[go_sem]
        repeat refine AI ?_
        repeat refine AI ?_
        refine cw c4 ?_
        try simp (maxSteps:=9^9) only[go_sem]
       ·cases e2:okPt (nth (t:=tStep) l i).2<;>rw [e2] at c5
        ·have e0:tvStep q (nth (t:=tStep) l i)=false:=by unfold tvStep; rw [e1,e2]; rfl
         rw [e0] at hi
         rw [hi]
         try simp (maxSteps:=9^9) only[go_sem]
         repeat refine AI ?_
         repeat refine AI ?_
         refine cw c4 ?_
         try simp (maxSteps:=9^9) only[go_sem]
         repeat refine AI ?_
         refine cw c5 ?_
         try simp (maxSteps:=9^9) only[go_sem]
        ·by_cases e3:(nth (t:=tStep) l i).1=0
         ·have e0:tvStep q (nth (t:=tStep) l i)=true:=by unfold tvStep; rw [e1,e2,decide_eq_true e3]; rfl
          have d3:=decide_eq_true e3
          rw [e0,Bool.true_and,<-hst] at hi
          try simp (maxSteps:=9^9) only[go_sem]
          repeat refine AI ?_
          repeat refine AI ?_
          refine cw c4 ?_
          try simp (maxSteps:=9^9) only[go_sem]
          repeat refine AI ?_
          refine cw c5 ?_
          try simp (maxSteps:=9^9) only[go_sem]
          try simp (maxSteps:=9^9) only[go_sem,d3]
          repeat refine AI ?_
          refine cw c7 ?_
          try simp (maxSteps:=9^9) only[go_sem]
          repeat refine AI ?_
          refine LoopK.mk (i+1) ?_ hi (by omega)
          rw [hst]
          exact WK
         ·have d3:=decide_eq_false e3
          cases e4:eqb (nth (t:=tStep) l i).2 q.2<;>rw [e4] at c6
          ·have e0:tvStep q (nth (t:=tStep) l i)=false:=by unfold tvStep; rw [e1,e2,d3,e4]; rfl
           rw [e0] at hi
           rw [hi]
           try simp (maxSteps:=9^9) only[go_sem]
           repeat refine AI ?_
           repeat refine AI ?_
           refine cw c4 ?_
           try simp (maxSteps:=9^9) only[go_sem]
           repeat refine AI ?_
           refine cw c5 ?_
           try simp (maxSteps:=9^9) only[go_sem]
           try simp (maxSteps:=9^9) only[go_sem,d3]
           repeat refine AI ?_
           refine cw c6 ?_
           try simp (maxSteps:=9^9) only[go_sem]
          ·have e0:tvStep q (nth (t:=tStep) l i)=true:=by unfold tvStep; rw [e1,e2,d3,e4]; rfl
           rw [e0,Bool.true_and,<-hst] at hi
           try simp (maxSteps:=9^9) only[go_sem]
           repeat refine AI ?_
           repeat refine AI ?_
           refine cw c4 ?_
           try simp (maxSteps:=9^9) only[go_sem]
           repeat refine AI ?_
           refine cw c5 ?_
           try simp (maxSteps:=9^9) only[go_sem]
           try simp (maxSteps:=9^9) only[go_sem,d3]
           repeat refine AI ?_
           refine cw c6 ?_
           try simp (maxSteps:=9^9) only[go_sem]
           repeat refine AI ?_
           refine cw c7 ?_
           try simp (maxSteps:=9^9) only[go_sem]
           repeat refine AI ?_
           refine LoopK.mk (i+1) ?_ hi (by omega)
           rw [hst]
           exact WK
      ·rw [hi,List.drop_eq_nil_of_le (by omega),show tvGo (plcS p l i) []=true from rfl]
       try simp (maxSteps:=9^9) only[go_sem]
    ·have d4:decide ((8:Int) < l.length)=true:=decide_eq_true (by omega)
     rw [decide_eq_false h4]
     refine fe Tryz.func83 Tryz.ntmps83 Tryz.results83 fun hwf=>?_
     try simp (maxSteps:=9^9) only[go_sem]
     repeat refine AI ?_
     refine cw c1 ?_
     try simp (maxSteps:=9^9) only[go_sem]
     repeat refine AI ?_
     refine cw c2 ?_
     try simp (maxSteps:=9^9) only[go_sem]
     repeat refine AI ?_
     refine cw c3 ?_
     try simp (maxSteps:=9^9) only[go_sem]
     try simp (maxSteps:=9^9) only[go_sem,d4]
theorem l05Copy_fn (p:DP) (h:okPt p=true):Fn Tryz.prog 63 [⟨tPoint,p⟩] true [⟨tPoint,p⟩]:=by
 unfold okPt at h
 rw [Bool.and_eq_true] at h
 have h1:=okR_len h.1
 have h2:=okR_len h.2
 have c1:=l04Copy_fn p.1 (by omega) (by omega)
 have c2:=l04Copy_fn p.2 (by omega) (by omega)
 refine fe Tryz.func63 Tryz.ntmps63 Tryz.results63 fun hwf=>?_
 try simp (maxSteps:=9^9) only[go_sem]
 repeat refine AI ?_
 refine cw c1 ?_
 try simp (maxSteps:=9^9) only[go_sem]
 repeat refine AI ?_
 refine cw c2 ?_
 try simp (maxSteps:=9^9) only[go_sem]
 all_goals repeat refine AI ?_
 all_goals first|kernel_rfl|omega|rfl
def clip (k:Int) (n:Nat):Nat:=(max 0 (min k (n:Int))).toNat
theorem after_fn (p:DS) (l:List DS) (k:Int):Fn Tryz.prog 100 [⟨tStep,p⟩,⟨.slice tStep,l⟩,⟨.int,k⟩] false [⟨tStep,plcS p l (clip k l.length)⟩]:=by
 unfold plcS clip
 refine fe Tryz.func100 Tryz.ntmps100 Tryz.results100 fun hwf=>?_
 have hl:l.length<=9223372036854775807:=(hwf ⟨.slice tStep,l⟩ (by simp)).1
 try simp (maxSteps:=9^9) only[go_sem]
 have hml:(List.take (max 0 (min k ↑l.length)).toNat l).length<=9223372036854775807:=by rw [List.length_take]; omega
 generalize List.take (max 0 (min k ↑l.length)).toNat l=m at hml ⊢
 repeat refine AI ?_
 refine LoopG.intro _ _ _ (fun i:Nat=>⟨[(3,.ptr 0 0),(6,.ptr 1 0),(15,.sl tStep m),(16,.sc (.int .i64 m.length)),(17,.sc (.int .i64 i))],[(1,.box [.sc (.int .i64 0),.sc (.bool false),.sc (.slice none 0 0),.sc (.slice none 0 0),.sc (.bool false),.sc (.slice none 0 0),.sc (.slice none 0 0)]),(0,.box [.sc (.int .i64 (plcS p m i).1),.sc (.bool (plcS p m i).2.1.1.1),.sl .int (plcS p m i).2.1.1.2,.sl .int (plcS p m i).2.1.2,.sc (.bool (plcS p m i).2.2.1.1),.sl .int (plcS p m i).2.2.1.2,.sl .int (plcS p m i).2.2.2])]⟩) (fun i=>i<=m.length) (fun i=>m.length - i) 0 ?_ (Nat.zero_le _) ?_
 ·exact WK
 ·rintro i hi
  try simp (maxSteps:=9^9) only[go_sem]
  refine CondW_dec (fun hA=>?_) (fun hA=>?_)
  ·have hst:=plcS_step p (show i < m.length by omega)
   have c1:=stepped_fn (plcS p m i) (nth (t:=tStep) m i)
   try simp (maxSteps:=9^9) only[go_sem]
   repeat refine AI ?_
   repeat refine AI ?_
   refine cw c1 ?_
   try simp (maxSteps:=9^9) only[go_sem]
   repeat refine AI ?_
   refine LoopK.mk (i+1) ?_ (by omega) (by omega)
   rw [hst]
   exact WK
  ·have:plcF p m=plcS p m i:=by unfold plcS; rw [List.take_of_length_le (by omega)]
   rw [this]
   try simp (maxSteps:=9^9) only[go_sem]
   all_goals repeat refine AI ?_
   all_goals first|kernel_rfl|omega|rfl
theorem PlacementAfter_fn (p:DS) (l:List DS) (k:Int) (h:okPt (plcS p l (clip k l.length)).2=true):Fn Tryz.prog 160 [⟨tStep,p⟩,⟨.slice tStep,l⟩,⟨.int,k⟩] true [⟨tStep,plcS p l (clip k l.length)⟩]:=by
 have c2:=l05Copy_fn _ h
 refine fe Tryz.func160 Tryz.ntmps160 Tryz.results160 fun hwf=>?_
 have hl:l.length<=9223372036854775807:=(hwf ⟨.slice tStep,l⟩ (by simp)).1
 try simp (maxSteps:=9^9) only[go_sem]
 refine LoopG.intro _ _ _ (fun i:Nat=>⟨[(2,.sc (.int .i64 k)),(3,.ptr 0 0),(6,.ptr 1 0),(9,.sl tStep l),(10,.sc (.int .i64 l.length)),(11,.sc (.int .i64 i))],[(1,.box [.sc (.int .i64 0),.sc (.bool false),.sc (.slice none 0 0),.sc (.slice none 0 0),.sc (.bool false),.sc (.slice none 0 0),.sc (.slice none 0 0)]),(0,.box [.sc (.int .i64 (plcS p l (clip k i)).1),.sc (.bool (plcS p l (clip k i)).2.1.1.1),.sl .int (plcS p l (clip k i)).2.1.1.2,.sl .int (plcS p l (clip k i)).2.1.2,.sc (.bool (plcS p l (clip k i)).2.2.1.1),.sl .int (plcS p l (clip k i)).2.2.1.2,.sl .int (plcS p l (clip k i)).2.2.2])]⟩) (fun i=>i<=l.length) (fun i=>l.length - i) 0 ?_ (Nat.zero_le _) ?_
 ·have e0:plcS p l (clip k 0)=p:=by rw [show clip k 0=0 by unfold clip; omega]; rfl
  rw [e0]
  exact WK
 ·rintro i hi
  try simp (maxSteps:=9^9) only[go_sem]
  refine CondW_dec (fun hA=>?_) (fun hA=>?_)
  ·try simp (maxSteps:=9^9) only[go_sem]
   repeat refine AI ?_
   refine CondW_dec (fun hB=>?_) (fun hB=>?_)
   ·have hst:=plcS_step p (show i < l.length by omega)
    rw [show i=clip k i by unfold clip; omega,show clip k i+1=clip k (i+1) by unfold clip; omega] at hst
    have hci:clip k i=i:=by unfold clip; omega
    rw [hci] at hst
    have c1:=l22After_fn (plcS p l i) (nth (t:=tStep) l i)
    rw [hci]
    try simp (maxSteps:=9^9) only[go_sem]
    repeat refine AI ?_
    refine cw c1 ?_
    try simp (maxSteps:=9^9) only[go_sem]
    repeat refine AI ?_
    refine LoopK.mk (i+1) ?_ (by omega) (by omega)
    rw [hst]
    exact WK
   ·have hst:clip k (i+1)=clip k i:=by unfold clip; omega
    try simp (maxSteps:=9^9) only[go_sem]
    repeat refine AI ?_
    refine LoopK.mk (i+1) ?_ (by omega) (by omega)
    rw [hst]
    exact WK
  ·rw [show i=l.length by omega]
   generalize plcS p l (clip k l.length)=q at c2 ⊢
   try simp (maxSteps:=9^9) only[go_sem]
   repeat refine AI ?_
   repeat refine AI ?_
   refine cw c2 ?_
   try simp (maxSteps:=9^9) only[go_sem]
   all_goals repeat refine AI ?_
   all_goals first|kernel_rfl|omega|rfl
theorem okPt_stp {p x:DS} (hp:okPt p.2=true) (hx:okPt x.2=true):okPt (stp p x).2=true:=by
 unfold stp
 split
 ·exact hx
 ·split
  ·exact hp
  ·exact hp
theorem okPt_go {l:List DS}:∀ {p:DS},okPt p.2=true->tvGo p l=true->∀ i,okPt (plcS p l i).2=true:=by
 induction l with
 | nil=>intro p hp _ i; unfold plcS; rw [List.take_nil]; exact hp
 | cons x l ih =>
  intro p hp h i
  have h':(tvStep p x && tvGo (stp p x) l)=true:=h
  rw [Bool.and_eq_true] at h'
  have hx:okPt x.2=true:=by
   have:=h'.1
   unfold tvStep at this
   rw [Bool.and_eq_true,Bool.and_eq_true] at this
   exact this.2.1
  cases i with
  | zero=>exact hp
  | succ i=>exact ih (okPt_stp hp hx) h'.2 i
theorem okPt_tour {t:DT} (h:tourB t=true) (i:Nat):okPt (plcS t.2.1 t.2.2 i).2=true:=by
 unfold tourB at h
 simp only [Bool.and_eq_true] at h
 exact okPt_go h.2.2.1 h.2.2.2.2 i
noncomputable def standB (t:DT) (k:Int):Bool:=tourB t && decide (0<=k/\k<=(t.2.2.length:Int))
noncomputable def standP (t:DT) (k:Int):DS:=plcS t.2.1 t.2.2 (clip k t.2.2.length)
noncomputable def standO (t:DT) (k:Int):DS:=if standB t k then standP t k else (0,ptZ)
theorem stand_fn (t:DT) (k:Int):Fn Tryz.prog 68 [⟨tTour,t⟩,⟨.int,k⟩] false [⟨tStep,standP t k⟩]:=by
 have c1:=after_fn t.2.1 t.2.2 k
 refine fe Tryz.func68 Tryz.ntmps68 Tryz.results68 fun hwf=>?_
 unfold standP
 try simp (maxSteps:=9^9) only[go_sem]
 repeat refine AI ?_
 refine cw c1 ?_
 try simp (maxSteps:=9^9) only[go_sem]
 all_goals repeat refine AI ?_
 all_goals first|kernel_rfl|omega|rfl
theorem specStandOf_fn (t:DT) (k:Int):FnT Tryz.prog 120 [⟨tTour,t⟩,⟨.int,k⟩] [⟨tStep,standO t k⟩,⟨.bool,standB t k⟩]:=by
 have c1:=specIsValidTour_fn t
 have c2:=l01In_fn k 0 t.2.2.length
 unfold standO standB
 cases h:tourB t<;>rw [h] at c1
 ·rw [Bool.false_and,if_neg (by decide)]
  refine fnT_enter tabOK mixes Tryz.func120 rfl rfl _ Tryz.ntmps120 _ Tryz.results120 (by simp) fun hwf=>?_
  try simp (maxSteps:=9^9) only[go_sem]
  repeat refine AI ?_
  refine cw c1 ?_
  try simp (maxSteps:=9^9) only[go_sem]
  all_goals repeat refine AI ?_
  all_goals first|kernel_rfl|omega|rfl
 ·cases h2:decide (0<=k/\k<=(t.2.2.length:Int))<;>rw [h2] at c2
  ·rw [Bool.and_false,if_neg (by decide)]
   refine fnT_enter tabOK mixes Tryz.func120 rfl rfl _ Tryz.ntmps120 _ Tryz.results120 (by simp) fun hwf=>?_
   try simp (maxSteps:=9^9) only[go_sem]
   repeat refine AI ?_
   refine cw c1 ?_
   try simp (maxSteps:=9^9) only[go_sem]
   repeat refine AI ?_
   refine cw c2 ?_
   try simp (maxSteps:=9^9) only[go_sem]
   all_goals repeat refine AI ?_
   all_goals first|kernel_rfl|omega|rfl
  ·have c3:=PlacementAfter_fn t.2.1 t.2.2 k (okPt_tour h _)
   rw [Bool.and_self,if_pos rfl]
   unfold standP
   refine fnT_enter tabOK mixes Tryz.func120 rfl rfl _ Tryz.ntmps120 _ Tryz.results120 (by simp) fun hwf=>?_
   try simp (maxSteps:=9^9) only[go_sem]
   repeat refine AI ?_
   refine cw c1 ?_
   try simp (maxSteps:=9^9) only[go_sem]
   repeat refine AI ?_
   refine cw c2 ?_
   try simp (maxSteps:=9^9) only[go_sem]
   repeat refine AI ?_
   refine cw c3 ?_
   try simp (maxSteps:=9^9) only[go_sem]
   all_goals repeat refine AI ?_
   all_goals first|kernel_rfl|omega|rfl
theorem differenceP_fn (p q:DP) (hp:okPt p=true) (hq:okPt q=true):Fn Tryz.prog 72 [⟨tPoint,p⟩,⟨tPoint,q⟩] true [⟨tPoint,subP p q⟩]:=by
 obtain ⟨p1,p2⟩:=Bool.and_eq_true_iff.1 (show (okR p.1 && okR p.2)=true from hp)
 obtain ⟨q1,q2⟩:=Bool.and_eq_true_iff.1 (show (okR q.1 && okR q.2)=true from hq)
 have h2:=difference_fn (rdO p.1) (rdO p.2) (rdO q.1) (rdO q.2) (okO_rdO _) (okO_rdO _) (okO_rdO _) (okO_rdO _)
 rw [okR_oD p1,okR_oD p2,okR_oD q1,okR_oD q2] at h2
 unfold subP
 exact h2
theorem stp_hd {p x:DS} (hp:0<=p.1/\p.1<=3):0<=(stp p x).1/\(stp p x).1<=3:=by
 unfold stp
 split
 ·exact hp
 ·split
  ·rename_i h
   show 0<=nxH p.1 x.1/\nxH p.1 x.1<=3
   rw [nxH_in hp h]
   omega
  ·exact hp
theorem plcF_hd:∀ {l:List DS} {p:DS},0<=p.1/\p.1<=3->0<=(plcF p l).1/\(plcF p l).1<=3
 | [],_,h=>h
 | x :: l,p,h=>plcF_hd (l:=l) (p:=stp p x) (stp_hd h)
theorem tour_parts {t:DT} (h:tourB t=true):SmP 20 t.1/\(0<=t.2.1.1/\t.2.1.1<=3)/\okPt t.2.1.2=true/\t.2.2.length<=8/\tvGo t.2.1 t.2.2=true:=by
 unfold tourB at h
 simp only [Bool.and_eq_true] at h
 obtain ⟨h1,h2,h3,h4,h5⟩:=h
 exact ⟨smB_p h1,of_decide_eq_true h2,h3,by have:=of_decide_eq_true h4; omega,h5⟩
theorem standP_hd {t:DT} (h:tourB t=true) (k:Int):0<=(standP t k).1/\(standP t k).1<=3:=plcF_hd (tour_parts h).2.1
theorem standP_ok {t:DT} (h:tourB t=true) (k:Int):okPt (standP t k).2=true:=okPt_tour h _
theorem standB_t {t:DT} {k:Int} (h:standB t k=true):tourB t=true:=by unfold standB at h; rw [Bool.and_eq_true] at h; exact h.1
noncomputable def robD (t:DT) (k:Int):List DV:=t.1.map (rotN (standP t k).1.toNat)
theorem robD_sm {t:DT} (h:tourB t=true) (k:Int):SmP 20 (robD t k):=(tour_parts h).1.rot _
noncomputable def areaD (a:DT) (i:Int) (b:DT) (j:Int):List DV:=obsD (robD a i) (robD b j)
noncomputable def stTB (a:DT) (i:Int) (b:DT) (j:Int):Bool:=decide (cpD (areaD a i b j) (subP (standP a i).2 (standP b j).2) ≥ 0)
theorem areaD_poly {a b:DT} (ha:tourB a=true) (hb:tourB b=true) (i j:Int):polyP (areaD a i b j):=obs_poly (robD_sm ha i) (robD_sm hb j) (by decide)
theorem standsTouch_fn (a:DT) (i:Int) (b:DT) (j:Int) (ha:tourB a=true) (hb:tourB b=true):Fn Tryz.prog 41 [⟨tTour,a⟩,⟨.int,i⟩,⟨tTour,b⟩,⟨.int,j⟩] false [⟨.bool,stTB a i b j⟩]:=by
 have c1:=stand_fn a i
 have c2:=stand_fn b j
 have p1:=(tour_parts ha).1
 have p2:=(tour_parts hb).1
 have l1:=p1.five
 have l2:=p2.five
 have c3:=TurnPolygonI_fn a.1 (standP a i).1 p1.ok (by omega) (standP_hd ha i)
 have c4:=TurnPolygonI_fn b.1 (standP b j).1 p2.ok (by omega) (standP_hd hb j)
 have c5:=ObstacleForI_fn _ _ (robD_sm ha i) (robD_sm hb j) (by decide)
 have c6:=differenceP_fn _ _ (standP_ok ha i) (standP_ok hb j)
 have c7:=ContainsI_fn (areaD a i b j) (subP (standP a i).2 (standP b j).2) (areaD_poly ha hb i j)
 unfold robD at c5
 unfold areaD robD at c7
 unfold stTB areaD robD
 refine fe Tryz.func41 Tryz.ntmps41 Tryz.results41 fun hwf=>?_
 try simp (maxSteps:=9^9) only[go_sem]
 repeat refine AI ?_
 refine cw c1 ?_
 try simp (maxSteps:=9^9) only[go_sem]
 repeat refine AI ?_
 refine cw c2 ?_
 try simp (maxSteps:=9^9) only[go_sem]
 repeat refine AI ?_
 repeat refine AI ?_
 refine cw c3 ?_
 try simp (maxSteps:=9^9) only[go_sem]
 repeat refine AI ?_
 refine cw c4 ?_
 try simp (maxSteps:=9^9) only[go_sem]
 repeat refine AI ?_
 refine cw c5 ?_
 try simp (maxSteps:=9^9) only[go_sem]
 repeat refine AI ?_
 repeat refine AI ?_
 refine cw c6 ?_
 try simp (maxSteps:=9^9) only[go_sem]
 repeat refine AI ?_
 refine cw c7 ?_
 try simp (maxSteps:=9^9) only[go_sem]
 all_goals repeat refine AI ?_
 all_goals first|kernel_rfl|omega|rfl
noncomputable def stTouch (a:DT) (i:Int) (b:DT) (j:Int):Bool:=standB a i && (standB b j && stTB a i b j)
theorem standO_t {t:DT} {k:Int} (h:standB t k=true):standO t k=standP t k:=if_pos h
theorem StandsTouchS_fn (a:DT) (i:Int) (b:DT) (j:Int):Fn Tryz.prog 84 [⟨tTour,a⟩,⟨.int,i⟩,⟨tTour,b⟩,⟨.int,j⟩] false [⟨.bool,stTouch a i b j⟩]:=by
 have c1:=specStandOf_fn a i
 have c2:=specStandOf_fn b j
 unfold stTouch
 cases h1:standB a i<;>rw [h1] at c1
 ·refine fe Tryz.func84 Tryz.ntmps84 Tryz.results84 fun hwf=>?_
  try simp (maxSteps:=9^9) only[go_sem]
  repeat refine AI ?_
  refine CallW.t (c1) ?_
  try simp (maxSteps:=9^9) only[go_sem]
  repeat refine AI ?_
  refine CallW.t (c2) ?_
  try simp (maxSteps:=9^9) only[go_sem]
  all_goals repeat refine AI ?_
  all_goals first|kernel_rfl|omega|rfl
 ·cases h2:standB b j<;>rw [h2] at c2
  ·refine fe Tryz.func84 Tryz.ntmps84 Tryz.results84 fun hwf=>?_
   try simp (maxSteps:=9^9) only[go_sem]
   repeat refine AI ?_
   refine CallW.t (c1) ?_
   try simp (maxSteps:=9^9) only[go_sem]
   repeat refine AI ?_
   refine CallW.t (c2) ?_
   try simp (maxSteps:=9^9) only[go_sem]
   all_goals repeat refine AI ?_
   all_goals first|kernel_rfl|omega|rfl
  ·have ha:=standB_t h1
   have hb:=standB_t h2
   have p1:=(tour_parts ha).1
   have p2:=(tour_parts hb).1
   have l1:=p1.five
   have l2:=p2.five
   rw [standO_t h1] at c1
   rw [standO_t h2] at c2
   have c3:=TurnPolygonS_fn a.1 (standP a i).1 p1.ok (by omega) (standP_hd ha i)
   have c4:=TurnPolygonS_fn b.1 (standP b j).1 p2.ok (by omega) (standP_hd hb j)
   have c5:=ObstacleForS_fn _ _ (robD_sm ha i) (robD_sm hb j) (by decide)
   have c6:=specSubtractPoints_fn (standP a i).2 (standP b j).2
   have c7:=ContainsS_fn (areaD a i b j) (subP (standP a i).2 (standP b j).2) (areaD_poly ha hb i j)
   unfold robD at c5
   unfold areaD robD at c7
   unfold stTB areaD robD
   refine fe Tryz.func84 Tryz.ntmps84 Tryz.results84 fun hwf=>?_
   try simp (maxSteps:=9^9) only[go_sem]
   repeat refine AI ?_
   refine CallW.t (c1) ?_
   try simp (maxSteps:=9^9) only[go_sem]
   repeat refine AI ?_
   refine CallW.t (c2) ?_
   try simp (maxSteps:=9^9) only[go_sem]
   repeat refine AI ?_
   repeat refine AI ?_
   refine cw c3 ?_
   try simp (maxSteps:=9^9) only[go_sem]
   repeat refine AI ?_
   refine cw c4 ?_
   try simp (maxSteps:=9^9) only[go_sem]
   repeat refine AI ?_
   refine cw c5 ?_
   try simp (maxSteps:=9^9) only[go_sem]
   repeat refine AI ?_
   repeat refine AI ?_
   refine CallW.mx (c6) ?_
   try simp (maxSteps:=9^9) only[go_sem]
   repeat refine AI ?_
   refine CallW.mx (c7) ?_
   try simp (maxSteps:=9^9) only[go_sem]
   all_goals repeat refine AI ?_
   all_goals first|kernel_rfl|omega|rfl
theorem divO_none_l (y:Option Rat):divO none y=none:=rfl
theorem divO_none_r (x:Option Rat):divO x none=none:=by cases x<;>rfl
theorem divO_z (p:Rat) {q:Rat} (h:q=0):divO (some p) (some q)=none:=if_pos h
theorem divO_s {p q:Rat} (h:q ≠ 0):divO (some p) (some q)=capR (p / q):=by unfold divO; simp only; rw [if_neg h]
theorem okO_div (x y:Option Rat):okO (divO x y):=by
 unfold divO
 split
 ·split
  ·exact okO_none
  ·exact okO_cap _
 ·exact okO_none
theorem inv_mk {q:Rat} (h:q.num ≠ 0):q⁻¹=_root_.mkRat (if q.num < 0 then -(q.den:Int) else q.den) q.num.natAbs:=by
 rw [Rat.inv_def]
 split
 ·rename_i hn
  rw [<-Rat.neg_divInt_neg,show -q.num=((q.num.natAbs:Nat):Int) by omega,Rat.divInt_ofNat]
 ·rename_i hn
  rw [<-Rat.divInt_ofNat]
  congr 1
  omega
theorem div_mk {p q:Rat} (h:q.num ≠ 0):p / q=_root_.mkRat (p.num * (if q.num < 0 then -(q.den:Int) else q.den)) (p.den * q.num.natAbs):=by
 rw [Rat.div_def,inv_mk h]
 conv=>lhs; rw [<-Rat.mkRat_self p]
 rw [Rat.mkRat_mul_mkRat]
theorem sgn_divI {p q:Rat}:sgn (!decide (decide (p.num * (q.den:Int) < 0)=decide (q.num < 0))) (p.num * (q.den:Int)).natAbs=p.num * (if q.num < 0 then -(q.den:Int) else q.den):=by
 have hd:=den_pos' q
 unfold sgn
 by_cases h1:p.num * (q.den:Int) < 0
 ·by_cases h2:q.num < 0
  ·simp only [h1,h2,decide_true,Bool.not_true,Bool.false_eq_true,if_false,if_true]
   rw [Int.mul_neg]; omega
  ·simp only [h1,h2,decide_true,decide_false,Bool.true_eq_false,Bool.not_false,if_true,if_false]
   omega
 ·by_cases h2:q.num < 0
  ·simp only [h1,h2,decide_true,decide_false,Bool.false_eq_true,Bool.not_false,if_true]
   rw [Int.mul_neg]; omega
  ·simp only [h1,h2,decide_false,decide_true,Bool.not_true,Bool.false_eq_true,if_false]
   omega
theorem sgn_divS {p q:Rat}:sgn (!decide (decide (p.num < 0)=decide (q.num < 0))) (p.num.natAbs * q.den)=p.num * (if q.num < 0 then -(q.den:Int) else q.den):=by
 unfold sgn
 rw [Int.natCast_mul]
 by_cases h1:p.num < 0
 ·by_cases h2:q.num < 0
  ·simp only [h1,h2,decide_true,Bool.not_true,Bool.false_eq_true,if_false,if_true]
   rw [show (p.num.natAbs:Int)=-p.num by omega,Int.mul_neg,Int.neg_mul]
  ·simp only [h1,h2,decide_true,decide_false,Bool.true_eq_false,Bool.not_false,if_true,if_false]
   rw [show (p.num.natAbs:Int)=-p.num by omega,Int.neg_mul,Int.neg_neg]
 ·by_cases h2:q.num < 0
  ·simp only [h1,h2,decide_true,decide_false,Bool.false_eq_true,Bool.not_false,if_true]
   rw [show (p.num.natAbs:Int)=p.num by omega,Int.mul_neg]
  ·simp only [h1,h2,decide_false,decide_true,Bool.not_true,Bool.false_eq_true,if_false]
   rw [show (p.num.natAbs:Int)=p.num by omega]
theorem num_zero {q:Rat} (h:q.num=0):q=0:=by
 rw [<-Rat.mkRat_self q,h,Rat.zero_mkRat]
theorem ratDiv_fn (x y:Option Rat) (hx:okO x) (hy:okO y):Fn Tryz.prog 244 [⟨tRat,oD x⟩,⟨tRat,oD y⟩] true [⟨tRat,oD (divO x y)⟩]:=by
 cases x with
 | none =>
  refine fe Tryz.func244 Tryz.ntmps244 Tryz.results244 fun hwf=>?_
  try simp (maxSteps:=9^9) only[go_sem]
  repeat refine AI ?_
  refine cw isGood_n ?_
  try simp (maxSteps:=9^9) only[go_sem]
  try simp (maxSteps:=9^9) only[go_sem,divO_none_l]
 | some p =>
  cases y with
  | none =>
   refine fe Tryz.func244 Tryz.ntmps244 Tryz.results244 fun hwf=>?_
   try simp (maxSteps:=9^9) only[go_sem]
   repeat refine AI ?_
   refine cw (isGood_s p) ?_
   try simp (maxSteps:=9^9) only[go_sem]
   repeat refine AI ?_
   refine cw isGood_n ?_
   try simp (maxSteps:=9^9) only[go_sem]
   try simp (maxSteps:=9^9) only[go_sem,divO_none_r]
  | some q =>
   obtain ⟨p1,p2⟩:=hx p rfl
   obtain ⟨q1,q2⟩:=hy q rfl
   by_cases h0:q.num=0
   ·have e0:nl q.num.natAbs=0:=nl_eq_zero.2 (by omega)
    have d0:decide ((nl q.num.natAbs:Int)=0)=true:=decide_eq_true (by omega)
    rw [divO_z p (num_zero h0)]
    refine fe Tryz.func244 Tryz.ntmps244 Tryz.results244 fun hwf=>?_
    try simp (maxSteps:=9^9) only[go_sem]
    repeat refine AI ?_
    refine cw (isGood_s p) ?_
    try simp (maxSteps:=9^9) only[go_sem]
    repeat refine AI ?_
    refine cw (isGood_s q) ?_
    try simp (maxSteps:=9^9) only[go_sem]
    try simp (maxSteps:=9^9) only[go_sem,d0]
   ·have hq0:q ≠ 0:=fun h=>h0 (by rw [h]; rfl)
    have d0:decide ((nl q.num.natAbs:Int)=0)=false:=decide_eq_false (fun h=>h0 (by have:=nl_eq_zero.1 (show nl q.num.natAbs=0 by omega); omega))
    have b1:=nl_mulI p.num (q.den:Int)
    have b4:=nl_mul p.den q.num.natAbs
    rw [Int.natAbs_natCast] at b1
    have hz:=ratMake_end (p.num * (if q.num < 0 then -(q.den:Int) else q.den)) (p.den * q.num.natAbs) (Nat.mul_ne_zero p.den_nz (by omega)) (by
     rw [<-sgn_divI,sgn_abs]; omega) (by omega)
    rw [<-div_mk h0] at hz
    rw [divO_s hq0]
    have c3:=bigMulN_fn p.num q.den (by omega) (by omega)
    have c4:=bigMake_to (sgn_divI (p:=p) (q:=q))
    have c5:=natMul_fn p.den q.num.natAbs (by omega) (by omega)
    refine fe Tryz.func244 Tryz.ntmps244 Tryz.results244 fun hwf=>?_
    try simp (maxSteps:=9^9) only[go_sem]
    repeat refine AI ?_
    refine cw (isGood_s p) ?_
    try simp (maxSteps:=9^9) only[go_sem]
    repeat refine AI ?_
    refine cw (isGood_s q) ?_
    try simp (maxSteps:=9^9) only[go_sem]
    try simp (maxSteps:=9^9) only[go_sem,d0]
    repeat refine AI ?_
    refine cw c3 ?_
    try simp (maxSteps:=9^9) only[go_sem]
    repeat refine AI ?_
    repeat refine AI ?_
    refine cw c4 ?_
    try simp (maxSteps:=9^9) only[go_sem]
    repeat refine AI ?_
    refine cw c5 ?_
    try simp (maxSteps:=9^9) only[go_sem]
    repeat refine AI ?_
    refine cw hz ?_
    try simp (maxSteps:=9^9) only[go_sem]
    all_goals repeat refine AI ?_
    all_goals first|kernel_rfl|omega|rfl
theorem l04Low0_fn (s:Bool) (a:Nat):Fn Tryz.prog 237 [⟨.bool,s⟩,⟨tInts,natL a⟩,⟨tInts,[]⟩] true [⟨tRat,oD none⟩]:=by
 have ht1:=l02Trim_fn (natL a)
 rw [trimL_natL] at ht1
 have ht2:Fn Tryz.prog 213 [⟨tInts,[]⟩] false [⟨tInts,[]⟩]:=l02Trim_fn []
 refine fe Tryz.func237 Tryz.ntmps237 Tryz.results237 fun hwf=>?_
 try simp (maxSteps:=9^9) only[go_sem]
 repeat refine AI ?_
 refine cw ht1 ?_
 try simp (maxSteps:=9^9) only[go_sem]
 repeat refine AI ?_
 refine cw ht2 ?_
 try simp (maxSteps:=9^9) only[go_sem]
 refine CondW_dec (fun _=>?_) (fun h=>absurd rfl h)
 try simp (maxSteps:=9^9) only[go_sem]
theorem specRatDiv_fn (r s:DR):Fn Tryz.prog 266 [⟨tRat,r⟩,⟨tRat,s⟩] true [⟨tRat,oD (divO (rdO r) (rdO s))⟩]:=by
 have ch1:=specRatOk_fn r
 have ch2:=specRatOk_fn s
 cases h1:okR r<;>rw [h1] at ch1
 ·rw [okR_f h1,divO_none_l]
  refine fe Tryz.func266 Tryz.ntmps266 Tryz.results266 fun hwf=>?_
  try simp (maxSteps:=9^9) only[go_sem]
  repeat refine AI ?_
  refine cw ch1 ?_
  try simp (maxSteps:=9^9) only[go_sem]
 ·cases h2:okR s<;>rw [h2] at ch2
  ·rw [okR_f h2,divO_none_r]
   refine fe Tryz.func266 Tryz.ntmps266 Tryz.results266 fun hwf=>?_
   try simp (maxSteps:=9^9) only[go_sem]
   repeat refine AI ?_
   refine cw ch1 ?_
   try simp (maxSteps:=9^9) only[go_sem]
   repeat refine AI ?_
   refine cw ch2 ?_
   try simp (maxSteps:=9^9) only[go_sem]
  ·obtain ⟨p,hp,rfl,e1⟩:=okR_t h1
   obtain ⟨q,hq,rfl,e2⟩:=okR_t h2
   rw [e1,e2]
   obtain ⟨p1,p2⟩:=hp
   obtain ⟨q1,q2⟩:=hq
   have b1:=nl_mul p.num.natAbs q.den
   have b4:=nl_mul p.den q.num.natAbs
   have c3:=l02Mul_fn p.num.natAbs q.den (by omega) (by omega)
   have c5:=l02Mul_fn p.den q.num.natAbs (by omega) (by omega)
   by_cases h0:q.num=0
   ·rw [divO_z p (num_zero h0)]
    have e0:p.den * q.num.natAbs=0:=by rw [h0]; rfl
    have c6:=l04Low0_fn (!decide (decide (p.num < 0)=decide (q.num < 0))) (p.num.natAbs * q.den)
    rw [e0,show natL 0=[] from natL_nil.2 rfl] at c5
    refine fe Tryz.func266 Tryz.ntmps266 Tryz.results266 fun hwf=>?_
    try simp (maxSteps:=9^9) only[go_sem]
    repeat refine AI ?_
    refine cw ch1 ?_
    try simp (maxSteps:=9^9) only[go_sem]
    repeat refine AI ?_
    refine cw ch2 ?_
    try simp (maxSteps:=9^9) only[go_sem]
    repeat refine AI ?_
    refine cw c3 ?_
    try simp (maxSteps:=9^9) only[go_sem]
    repeat refine AI ?_
    refine cw c5 ?_
    try simp (maxSteps:=9^9) only[go_sem]
    repeat refine AI ?_
    refine cw c6 ?_
    try simp (maxSteps:=9^9) only[go_sem]
    all_goals repeat refine AI ?_
    all_goals first|kernel_rfl|omega|rfl
   ·have hq0:q ≠ 0:=fun h=>h0 (by rw [h]; rfl)
    have hz:=l04Low_fn (!decide (decide (p.num < 0)=decide (q.num < 0))) (p.num.natAbs * q.den) (p.den * q.num.natAbs) (Nat.mul_ne_zero p.den_nz (by omega)) (by omega) (by omega)
    rw [sgn_divS,<-div_mk h0] at hz
    rw [divO_s hq0]
    refine fe Tryz.func266 Tryz.ntmps266 Tryz.results266 fun hwf=>?_
    try simp (maxSteps:=9^9) only[go_sem]
    repeat refine AI ?_
    refine cw ch1 ?_
    try simp (maxSteps:=9^9) only[go_sem]
    repeat refine AI ?_
    refine cw ch2 ?_
    try simp (maxSteps:=9^9) only[go_sem]
    repeat refine AI ?_
    refine cw c3 ?_
    try simp (maxSteps:=9^9) only[go_sem]
    repeat refine AI ?_
    refine cw c5 ?_
    try simp (maxSteps:=9^9) only[go_sem]
    repeat refine AI ?_
    refine cw hz ?_
    try simp (maxSteps:=9^9) only[go_sem]
    all_goals repeat refine AI ?_
    all_goals first|kernel_rfl|omega|rfl
def gP (p:DP):Prop:=∃ x y,okO x/\okO y/\p=(oD x,oD y)
theorem gP_1 {p:DP} (h:gP p):oD (rdO p.1)=p.1:=by
 obtain ⟨x,y,hx,hy,rfl⟩:=h
 show oD (rdO (oD x))=oD x
 rw [rdO_oD hx]
theorem gP_2 {p:DP} (h:gP p):oD (rdO p.2)=p.2:=by
 obtain ⟨x,y,hx,hy,rfl⟩:=h
 show oD (rdO (oD y))=oD y
 rw [rdO_oD hy]
theorem gP_mk {x y:Option Rat} (hx:okO x) (hy:okO y):gP (oD x,oD y):=⟨x,y,hx,hy,rfl⟩
theorem gP_ok {p:DP} (h:okPt p=true):gP p:=by
 obtain ⟨p1,p2⟩:=Bool.and_eq_true_iff.1 (show (okR p.1 && okR p.2)=true from h)
 exact ⟨rdO p.1,rdO p.2,okO_rdO _,okO_rdO _,by rw [okR_oD p1,okR_oD p2]⟩
noncomputable def sqD (p q:DP):Option Rat:=addO (mulO (subO (rdO p.1) (rdO q.1)) (subO (rdO p.1) (rdO q.1))) (mulO (subO (rdO p.2) (rdO q.2)) (subO (rdO p.2) (rdO q.2)))
theorem small_ngi {q:Rat}:small (-q) ↔ small q:=by unfold small; rw [Rat.neg_num,Rat.neg_den,Int.natAbs_neg]
theorem capR_neg (q:Rat):capR (-q)=negO (capR q):=by
 by_cases h:small q
 ·rw [capR_s h,capR_s (small_ngi.2 h)]; rfl
 ·rw [capR_n h,capR_n (fun h'=>h (small_ngi.1 h'))]; rfl
theorem subO_swap (x y:Option Rat):subO y x=negO (subO x y):=by
 cases x with
 | none=>cases y<;>rfl
 | some p =>
  cases y with
  | none=>rfl
  | some q =>
   show capR (q+-p)=negO (capR (p+-q))
   rw [<-capR_neg]
   congr 1
   rw [Rat.neg_add,Rat.neg_neg,Rat.add_comm]
theorem mulO_nn (x y:Option Rat):mulO (negO x) (negO y)=mulO x y:=by
 cases x with
 | none=>rfl
 | some p =>
  cases y with
  | none=>rfl
  | some q =>
   show capR (-p * -q)=capR (p * q)
   rw [Rat.neg_mul,Rat.mul_neg,Rat.neg_neg]
theorem mulO_comm (x y:Option Rat):mulO x y=mulO y x:=by
 cases x<;>cases y<;>first|rfl|(show capR _=capR _; rw [Rat.mul_comm])
theorem sqD_comm (p q:DP):sqD p q=sqD q p:=by
 unfold sqD
 rw [subO_swap (rdO q.1) (rdO p.1),subO_swap (rdO q.2) (rdO p.2),mulO_nn,mulO_nn]
theorem okO_sqD (p q:DP):okO (sqD p q):=okO_add _ _
theorem squareDistance_fn (p q:DP) (hp:gP p) (hq:gP q):Fn Tryz.prog 243 [⟨tPoint,p⟩,⟨tPoint,q⟩] true [⟨tRat,oD (sqD p q)⟩]:=by
 have c1:=ratSub_fn (rdO p.1) (rdO q.1) (okO_rdO _) (okO_rdO _)
 have c2:=ratSub_fn (rdO p.2) (rdO q.2) (okO_rdO _) (okO_rdO _)
 rw [gP_1 hp,gP_1 hq] at c1
 rw [gP_2 hp,gP_2 hq] at c2
 have c3:=ratMul_fn _ _ (okO_sub (rdO p.1) (rdO q.1)) (okO_sub (rdO p.1) (rdO q.1))
 have c4:=ratMul_fn _ _ (okO_sub (rdO p.2) (rdO q.2)) (okO_sub (rdO p.2) (rdO q.2))
 have c5:=ratAdd_fn _ _ (okO_mul (subO (rdO p.1) (rdO q.1)) (subO (rdO p.1) (rdO q.1))) (okO_mul (subO (rdO p.2) (rdO q.2)) (subO (rdO p.2) (rdO q.2)))
 unfold sqD
 refine fe Tryz.func243 Tryz.ntmps243 Tryz.results243 fun hwf=>?_
 try simp (maxSteps:=9^9) only[go_sem]
 repeat refine AI ?_
 refine cw c1 ?_
 try simp (maxSteps:=9^9) only[go_sem]
 repeat refine AI ?_
 refine cw c2 ?_
 try simp (maxSteps:=9^9) only[go_sem]
 repeat refine AI ?_
 repeat refine AI ?_
 refine cw c3 ?_
 try simp (maxSteps:=9^9) only[go_sem]
 repeat refine AI ?_
 refine cw c4 ?_
 try simp (maxSteps:=9^9) only[go_sem]
 repeat refine AI ?_
 refine cw c5 ?_
 try simp (maxSteps:=9^9) only[go_sem]
 all_goals repeat refine AI ?_
 all_goals first|kernel_rfl|omega|rfl
theorem SquareDistanceS_fn (p q:DP):Fn Tryz.prog 264 [⟨tPoint,p⟩,⟨tPoint,q⟩] true [⟨tRat,oD (sqD p q)⟩]:=by
 have c1:=specRatSub_fn q.1 p.1
 have c2:=specRatSub_fn q.2 p.2
 have c3:=specRatMul_fn (oD (subO (rdO q.1) (rdO p.1))) (oD (subO (rdO q.1) (rdO p.1)))
 have c4:=specRatMul_fn (oD (subO (rdO q.2) (rdO p.2))) (oD (subO (rdO q.2) (rdO p.2)))
 rw [rdO_oD (okO_sub _ _)] at c3 c4
 have c5:=specRatAdd_fn (oD (mulO (subO (rdO q.1) (rdO p.1)) (subO (rdO q.1) (rdO p.1)))) (oD (mulO (subO (rdO q.2) (rdO p.2)) (subO (rdO q.2) (rdO p.2))))
 rw [rdO_oD (okO_mul _ _),rdO_oD (okO_mul _ _)] at c5
 rw [sqD_comm]
 unfold sqD
 refine fe Tryz.func264 Tryz.ntmps264 Tryz.results264 fun hwf=>?_
 try simp (maxSteps:=9^9) only[go_sem]
 repeat refine AI ?_
 refine cw c1 ?_
 try simp (maxSteps:=9^9) only[go_sem]
 repeat refine AI ?_
 refine cw c2 ?_
 try simp (maxSteps:=9^9) only[go_sem]
 repeat refine AI ?_
 repeat refine AI ?_
 refine cw c3 ?_
 try simp (maxSteps:=9^9) only[go_sem]
 repeat refine AI ?_
 refine cw c4 ?_
 try simp (maxSteps:=9^9) only[go_sem]
 repeat refine AI ?_
 refine cw c5 ?_
 try simp (maxSteps:=9^9) only[go_sem]
 all_goals repeat refine AI ?_
 all_goals first|kernel_rfl|omega|rfl
noncomputable def inD (a b c:DP):Option Rat:=addO (mulO (subO (rdO b.1) (rdO a.1)) (subO (rdO c.1) (rdO a.1))) (mulO (subO (rdO b.2) (rdO a.2)) (subO (rdO c.2) (rdO a.2)))
theorem inD_comm (a b c:DP):inD a b c=inD a c b:=by
 unfold inD
 rw [mulO_comm (subO (rdO b.1) (rdO a.1)),mulO_comm (subO (rdO b.2) (rdO a.2))]
theorem okO_inD (a b c:DP):okO (inD a b c):=okO_add _ _
theorem inner_fn (a b c:DP) (ha:gP a) (hb:gP b) (hc:gP c):Fn Tryz.prog 245 [⟨tPoint,a⟩,⟨tPoint,b⟩,⟨tPoint,c⟩] true [⟨tRat,oD (inD a b c)⟩]:=by
 have c1:=ratSub_fn (rdO b.1) (rdO a.1) (okO_rdO _) (okO_rdO _)
 have c2:=ratSub_fn (rdO c.1) (rdO a.1) (okO_rdO _) (okO_rdO _)
 have c3:=ratSub_fn (rdO b.2) (rdO a.2) (okO_rdO _) (okO_rdO _)
 have c4:=ratSub_fn (rdO c.2) (rdO a.2) (okO_rdO _) (okO_rdO _)
 rw [gP_1 hb,gP_1 ha] at c1
 rw [gP_1 hc,gP_1 ha] at c2
 rw [gP_2 hb,gP_2 ha] at c3
 rw [gP_2 hc,gP_2 ha] at c4
 have c5:=ratMul_fn _ _ (okO_sub (rdO b.1) (rdO a.1)) (okO_sub (rdO c.1) (rdO a.1))
 have c6:=ratMul_fn _ _ (okO_sub (rdO b.2) (rdO a.2)) (okO_sub (rdO c.2) (rdO a.2))
 have c7:=ratAdd_fn _ _ (okO_mul (subO (rdO b.1) (rdO a.1)) (subO (rdO c.1) (rdO a.1))) (okO_mul (subO (rdO b.2) (rdO a.2)) (subO (rdO c.2) (rdO a.2)))
 unfold inD
 refine fe Tryz.func245 Tryz.ntmps245 Tryz.results245 fun hwf=>?_
 try simp (maxSteps:=9^9) only[go_sem]
 repeat refine AI ?_
 refine cw c1 ?_
 try simp (maxSteps:=9^9) only[go_sem]
 repeat refine AI ?_
 refine cw c2 ?_
 try simp (maxSteps:=9^9) only[go_sem]
 repeat refine AI ?_
 refine cw c5 ?_
 try simp (maxSteps:=9^9) only[go_sem]
 repeat refine AI ?_
 refine cw c3 ?_
 try simp (maxSteps:=9^9) only[go_sem]
 repeat refine AI ?_
 refine cw c4 ?_
 try simp (maxSteps:=9^9) only[go_sem]
 repeat refine AI ?_
 refine cw c6 ?_
 try simp (maxSteps:=9^9) only[go_sem]
 repeat refine AI ?_
 refine cw c7 ?_
 try simp (maxSteps:=9^9) only[go_sem]
 all_goals repeat refine AI ?_
 all_goals first|kernel_rfl|omega|rfl
theorem InnerProductS_fn (a b c:DP):Fn Tryz.prog 267 [⟨tPoint,a⟩,⟨tPoint,b⟩,⟨tPoint,c⟩] true [⟨tRat,oD (inD a b c)⟩]:=by
 have c1:=specRatSub_fn b.1 a.1
 have c2:=specRatSub_fn c.1 a.1
 have c3:=specRatSub_fn b.2 a.2
 have c4:=specRatSub_fn c.2 a.2
 have c5:=specRatMul_fn (oD (subO (rdO b.1) (rdO a.1))) (oD (subO (rdO c.1) (rdO a.1)))
 have c6:=specRatMul_fn (oD (subO (rdO b.2) (rdO a.2))) (oD (subO (rdO c.2) (rdO a.2)))
 rw [rdO_oD (okO_sub _ _),rdO_oD (okO_sub _ _)] at c5 c6
 have c7:=specRatAdd_fn (oD (mulO (subO (rdO b.1) (rdO a.1)) (subO (rdO c.1) (rdO a.1)))) (oD (mulO (subO (rdO b.2) (rdO a.2)) (subO (rdO c.2) (rdO a.2))))
 rw [rdO_oD (okO_mul _ _),rdO_oD (okO_mul _ _)] at c7
 unfold inD
 refine fe Tryz.func267 Tryz.ntmps267 Tryz.results267 fun hwf=>?_
 try simp (maxSteps:=9^9) only[go_sem]
 repeat refine AI ?_
 refine cw c1 ?_
 try simp (maxSteps:=9^9) only[go_sem]
 repeat refine AI ?_
 refine cw c2 ?_
 try simp (maxSteps:=9^9) only[go_sem]
 repeat refine AI ?_
 refine cw c5 ?_
 try simp (maxSteps:=9^9) only[go_sem]
 repeat refine AI ?_
 refine cw c3 ?_
 try simp (maxSteps:=9^9) only[go_sem]
 repeat refine AI ?_
 refine cw c4 ?_
 try simp (maxSteps:=9^9) only[go_sem]
 repeat refine AI ?_
 refine cw c6 ?_
 try simp (maxSteps:=9^9) only[go_sem]
 repeat refine AI ?_
 refine cw c7 ?_
 try simp (maxSteps:=9^9) only[go_sem]
 all_goals repeat refine AI ?_
 all_goals first|kernel_rfl|omega|rfl
theorem srtD_ng {l m:List DV} (h:∀ x,x ∈ m ↔ ngV x ∈ l):srtD m=(srtD l).reverse.map ngV:=by
 refine (srtD_eq ?_ fun x=>?_).symm
 ·rw [List.pairwise_map,List.pairwise_reverse]
  exact (srtD_srt l).imp fun {a b} h=>ltV_ng.2 h
 ·rw [List.mem_map,h]
  constructor
  ·rintro ⟨y,hy,rfl⟩
   rw [ngV_ngV]
   exact srtD_mem.1 (List.mem_reverse.1 hy)
  ·exact fun hx=>⟨ngV x,List.mem_reverse.2 (srtD_mem.2 hx),ngV_ngV x⟩
theorem chD_ng (l:List DV):chD (l.map ngV)=(chD l).map ngV:=by
 unfold chD
 rw [chR_ng,<-List.map_reverse,List.map_dropLast]
theorem hullD_ng {l m:List DV} (h:∀ x,x ∈ m ↔ ngV x ∈ l) (hl:¬ (srtD l).length < 2):hullD l=chD (srtD l)++chD (srtD l).reverse/\hullD m=(chD (srtD l).reverse++chD (srtD l)).map ngV:=by
 have e:=srtD_ng h
 constructor
 ·unfold hullD; rw [if_neg hl]
 ·unfold hullD
  rw [e,if_neg (by rw [List.length_map,List.length_reverse]; exact hl),chD_ng,<-List.map_reverse,List.reverse_reverse,chD_ng,List.map_append]
theorem rot_edge (u v:List DV) {i:Nat} (hi:i < (v++u).length):∃ j,j < (u++v).length/\nth (t:=tVec) (u++v) j=nth (t:=tVec) (v++u) i/\nth (t:=tVec) (u++v) (nxt (u++v).length j).toNat=nth (t:=tVec) (v++u) (nxt (v++u).length i).toNat:=by
 have e1:(v++u).length=v.length+u.length:=List.length_append
 have e2:(u++v).length=u.length+v.length:=List.length_append
 rw [e1] at hi ⊢
 rw [e2]
 have key:∀ k,k < v.length+u.length->nth (t:=tVec) (v++u) k=nth (t:=tVec) (u++v) (if k < v.length then u.length+k else k - v.length):=by
  intro k hk
  split
  ·rename_i h
   rw [nth_al h,nth_ar (by omega) (by omega),show u.length+k - u.length=k by omega]
  ·rename_i h
   rw [nth_ar (by omega) (by omega),nth_al (by omega)]
 have hn1:(nxt (v.length+u.length) i).toNat < v.length+u.length:=by
  have:=nxt_rng (n:=v.length+u.length) (i:=i) (by omega); omega
 refine ⟨if i < v.length then u.length+i else i - v.length,by split<;>omega,(key i hi).symm,?_⟩
 rw [key _ hn1]
 congr 1
 have hj:(if i < v.length then u.length+i else i - v.length) < u.length+v.length:=by split<;>omega
 rw [nxt_cases hi,nxt_cases hj]
 split<;>split<;>split<;>split<;>omega
theorem cntI_ge {l:List DV} {p:DP}:∀ {n:Nat},0<=cntI l p n ↔ ∀ i,i < n->0<=sdP (ptV (nth (t:=tVec) l i)) (ptV (nth (t:=tVec) l (nxt l.length i).toNat)) p
 | 0=>⟨fun _ i h=>absurd h (Nat.not_lt_zero _),fun _=>by unfold cntI; decide⟩
 | n+1=>by
  have ih:=cntI_ge (l:=l) (p:=p) (n:=n)
  unfold cntI
  constructor
  ·intro h i hi
   by_cases h1:i < n
   ·exact ih.1 (by omega) i h1
   ·rw [show i=n by omega]; omega
  ·intro h
   have h1:=ih.2 fun i hi=>h i (by omega)
   have h2:=h n (by omega)
   omega
theorem subO_ng (x y:Option Rat):subO (negO x) (negO y)=negO (subO x y):=by
 cases x with
 | none=>cases y<;>rfl
 | some p =>
  cases y with
  | none=>rfl
  | some q =>
   show capR (-p+- -q)=negO (capR (p+-q))
   rw [<-capR_neg,Rat.neg_add]
theorem rdO_ratI {n:Int} (h1:-1000<=n) (h2:n<=1000):rdO (ratI n)=some ((n:Int):Rat):=by
 have ho:okO (some ((n:Int):Rat)):=by
  intro q hq; injection hq with hq; subst hq
  exact ⟨Nat.le_trans (nl_small (n:=n.natAbs) (by omega)) (by decide),Nat.le_trans (nl_small (n:=1) (by decide)) (by decide)⟩
 rw [show ratI n=oD (some ((n:Int):Rat)) from ratI_eq n,rdO_oD ho]
theorem ptV_ng {a:DV} (h:okV a=true):rdO (ptV (ngV a)).1=negO (rdO (ptV a).1)/\rdO (ptV (ngV a)).2=negO (rdO (ptV a).2):=by
 obtain ⟨b1,b2,b3,b4⟩:=okV_b h
 unfold ptV ngV
 refine ⟨?_,?_⟩
 ·show rdO (ratI (-a.1))=negO (rdO (ratI a.1))
  rw [rdO_ratI b1 b2,rdO_ratI (by omega) (by omega)]
  show some _=some _
  rw [Rat.intCast_neg]
 ·show rdO (ratI (-a.2))=negO (rdO (ratI a.2))
  rw [rdO_ratI b3 b4,rdO_ratI (by omega) (by omega)]
  show some _=some _
  rw [Rat.intCast_neg]
theorem sdP_ng {a b:DV} {p q:DP} (ha:okV a=true) (hb:okV b=true) (h1:rdO q.1=negO (rdO p.1)) (h2:rdO q.2=negO (rdO p.2)):sdP (ptV (ngV a)) (ptV (ngV b)) q=sdP (ptV a) (ptV b) p:=by
 obtain ⟨a1,a2⟩:=ptV_ng ha
 obtain ⟨b1,b2⟩:=ptV_ng hb
 unfold sdP
 rw [a1,a2,b1,b2,h1,h2,subO_ng,subO_ng,subO_ng,subO_ng,mulO_nn,mulO_nn]
theorem subP_parts (p q:DP):(okPt (subP p q)=true/\rdO (subP p q).1=subO (rdO p.1) (rdO q.1)/\rdO (subP p q).2=subO (rdO p.2) (rdO q.2))\/(okPt (subP p q)=false/\((subO (rdO p.1) (rdO q.1)).isSome && (subO (rdO p.2) (rdO q.2)).isSome)=false):=by
 cases h:((subO (rdO p.1) (rdO q.1)).isSome && (subO (rdO p.2) (rdO q.2)).isSome)
 ·refine .inr ⟨?_,rfl⟩
  have e:subP p q=ptZ:=by unfold subP ptO; rw [h]; rfl
  rw [e]
  show (okR rZ && okR rZ)=false
  have:okR rZ=false:=by unfold okR; rw [show rZ=oD none from rfl,rdO_oD okO_none]; rfl
  rw [this]; rfl
 ·refine .inl ?_
  have e:subP p q=(oD (subO (rdO p.1) (rdO q.1)),oD (subO (rdO p.2) (rdO q.2))):=by unfold subP ptO; rw [h]; rfl
  rw [e]
  refine ⟨?_,rdO_oD (okO_sub _ _),rdO_oD (okO_sub _ _)⟩
  show (okR (oD _) && okR (oD _))=true
  unfold okR
  rw [rdO_oD (okO_sub _ _),rdO_oD (okO_sub _ _)]
  exact h
theorem negO_some (x:Option Rat):(negO x).isSome=x.isSome:=by cases x<;>rfl
theorem cpD_ng {l m:List DV} {A B:List DV} (hl:polyP (hullD l)) (hm:polyP (hullD m)) (h:∀ x,x ∈ m ↔ ngV x ∈ l) (p q:DP) (h0:0<=cpD (hullD l) (subP p q)):0<=cpD (hullD m) (subP q p):=by
 have h2:¬ (srtD l).length < 2:=by
  intro hlt
  have:hullD l=srtD l:=by unfold hullD; rw [if_pos hlt]
  have h3:=hl.1.1
  rw [this] at h3
  omega
 obtain ⟨e1,e2⟩:=hullD_ng h h2
 rcases subP_parts p q with ⟨k1,k2,k3⟩|⟨k1,_⟩
 ·have hq:okPt (subP q p)=true/\rdO (subP q p).1=negO (rdO (subP p q).1)/\rdO (subP q p).2=negO (rdO (subP p q).2):=by
   rcases subP_parts q p with ⟨j1,j2,j3⟩|⟨_,j2⟩
   ·exact ⟨j1,by rw [j2,k2,subO_swap],by rw [j3,k3,subO_swap]⟩
   ·exfalso
    rw [subO_swap (rdO p.1) (rdO q.1),subO_swap (rdO p.2) (rdO q.2),negO_some,negO_some] at j2
    have:=k1
    rcases subP_parts p q with ⟨_,i2,i3⟩|⟨i1,_⟩
    ·unfold okPt okR at this
     rw [i2,i3,j2] at this
     cases this
    ·rw [i1] at this; cases this
  obtain ⟨q1,q2,q3⟩:=hq
  unfold cpD at h0 ⊢
  rw [k1,if_pos rfl] at h0
  rw [q1,if_pos rfl]
  have hok:=hl.2.1
  rw [cntI_ge] at h0 ⊢
  rw [e1] at h0 hok
  rw [e2]
  generalize chD (srtD l)=u at *
  generalize chD (srtD l).reverse=v at *
  intro i hi
  rw [List.length_map] at hi ⊢
  have hn:∀ {k},k < (v++u).length->nth (t:=tVec) ((v++u).map ngV) k=ngV (nth (t:=tVec) (v++u) k):=fun {k} hk=>by
   rw [nth_lt (t:=tVec) hk,nth_lt (t:=tVec) (l:=(v++u).map ngV) (by rw [List.length_map]; exact hk),List.getElem_map]
  have hr:=nxt_rng (n:=(v++u).length) (i:=i) (by omega)
  have hr2:(nxt (v++u).length i).toNat < (v++u).length:=by omega
  obtain ⟨j,hj,f1,f2⟩:=rot_edge u v hi
  have hrj:=nxt_rng (n:=(u++v).length) (i:=j) (by omega)
  have hrj2:(nxt (u++v).length j).toNat < (u++v).length:=by omega
  rw [hn hi,hn hr2,<-f1,<-f2,sdP_ng (hok _ (nth_mem hj)) (hok _ (nth_mem hrj2)) q2 q3]
  exact h0 j hj
 ·unfold cpD at h0
  rw [k1,if_neg (by decide)] at h0
  exact absurd h0 (by decide)
theorem sm_ng (A B:List DV) (x:DV):x ∈ smV A (B.map negV) ↔ ngV x ∈ smV B (A.map negV):=by
 rw [smV_mem,smV_mem]
 constructor
 ·rintro ⟨p,hp,q,hq,rfl⟩
  obtain ⟨q',hq',rfl⟩:=List.mem_map.1 hq
  refine ⟨q',hq',negV p,List.mem_map_of_mem hp,?_⟩
  unfold addV negV ngV
  exact Prod.ext (by simp only; omega) (by simp only; omega)
 ·rintro ⟨p,hp,q,hq,e⟩
  obtain ⟨q',hq',rfl⟩:=List.mem_map.1 hq
  refine ⟨q',hq',negV p,List.mem_map_of_mem hp,?_⟩
  rw [<-ngV_ngV x,<-e]
  unfold addV negV ngV
  exact Prod.ext (by simp only; omega) (by simp only; omega)
theorem stTB_le {a b:DT} (ha:tourB a=true) (hb:tourB b=true) (i j:Int) (h:stTB a i b j=true):stTB b j a i=true:=by
 unfold stTB at h ⊢
 have h:=of_decide_eq_true h
 exact decide_eq_true (cpD_ng (A:=robD a i) (B:=robD b j) (areaD_poly ha hb i j) (areaD_poly hb ha j i) (fun x=>sm_ng (robD a i) (robD b j) x) _ _ h)
theorem stTB_symm {a b:DT} (ha:tourB a=true) (hb:tourB b=true) (i j:Int):stTB a i b j=stTB b j a i:=by
 cases h:stTB a i b j
 ·cases h2:stTB b j a i
  ·rfl
  ·rw [stTB_le hb ha j i h2] at h; cases h
 ·rw [stTB_le ha hb i j h]
theorem indexFunc_tour_fn (F:FuncId) (A:Ty) (x:A.den) (p:DT->Bool) (l:List DT) (hF:∀ y ∈ l,Fn Tryz.prog F (⟨tTour,y⟩ :: capD A x) false [⟨.bool,p y⟩]):Fn Tryz.prog 67 [⟨.slice tTour,l⟩,⟨.ext (.clo F) A,some x⟩] false [⟨.int,ixf (t:=tTour) p l⟩]:=by
 refine fe Tryz.func67 Tryz.ntmps67 Tryz.results67 fun hwf=>?_
 have hl:l.length<=9223372036854775807:=(hwf ⟨.slice tTour,l⟩ (by simp)).1
 try simp (maxSteps:=9^9) only[go_sem]
 refine LoopG.intro _ _ _ (fun i:Nat=>⟨[(0,.sl tTour l),(1,.ex (.clo F) A (some x)),(7,.sc (.int .i64 l.length)),(8,.sc (.int .i64 i))],[]⟩) (fun i=>∀ j < i,j < l.length->p (nth (t:=tTour) l j)=false) (fun i=>l.length - i) 0 ?_ (fun j h=>by simp at h) ?_
 ·exact WK
 ·rintro i h2
  try simp (maxSteps:=9^9) only[go_sem]
  refine CondW_dec (fun h3=>?_) (fun h3=>?_)
  ·have c1:=hF (nth (t:=tTour) l i) (nth_memT (by omega))
   try simp (maxSteps:=9^9) only[go_sem]
   repeat refine AI ?_
   repeat refine AI ?_
   refine CallD.mk (c1) ?_
   try simp (maxSteps:=9^9) only[go_sem]
   refine CondW_b (fun h4=>?_) (fun h4=>?_)
   ·try simp (maxSteps:=9^9) only[go_sem]
    exact (ixf_at (by omega) h4 (fun j hj=>h2 j hj (by omega))).symm
   ·try simp (maxSteps:=9^9) only[go_sem]
    repeat refine AI ?_
    refine LoopK.mk (i+1) ?_ (fun j hj hl=>?_) (by omega)
    ·exact WK
    ·by_cases hj2:j < i
     ·exact h2 j hj2 hl
     ·rw [show j=i by omega]; exact h4
  ·try simp (maxSteps:=9^9) only[go_sem]
   exact (ixf_none fun j hj=>h2 j (by omega) hj).symm
theorem containsFunc_tour_fn (F:FuncId) (A:Ty) (x:A.den) (p:DT->Bool) (l:List DT) (hF:∀ y ∈ l,Fn Tryz.prog F (⟨tTour,y⟩ :: capD A x) false [⟨.bool,p y⟩]):Fn Tryz.prog 39 [⟨.slice tTour,l⟩,⟨.ext (.clo F) A,some x⟩] false [⟨.bool,l.any p⟩]:=by
 have c1:=indexFunc_tour_fn F A x p l hF
 refine fe Tryz.func39 Tryz.ntmps39 Tryz.results39 fun hwf=>?_
 try simp (maxSteps:=9^9) only[go_sem]
 repeat refine AI ?_
 refine cw c1 ?_
 try simp (maxSteps:=9^9) only[go_sem]
 exact ixf_any
theorem areToursC_fn (a b:DT) (ha:tourB a=true) (hb:tourB b=true):Fn Tryz.prog 40 [⟨tTour,b⟩,⟨.ext .ref tTour,some a⟩] false [⟨.bool,stTB a 0 b 0⟩]:=by
 have c1:=standsTouch_fn a 0 b 0 ha hb
 refine fe Tryz.func40 Tryz.ntmps40 Tryz.results40 fun hwf=>?_
 try simp (maxSteps:=9^9) only[go_sem]
 repeat refine AI ?_
 refine cw c1 ?_
 try simp (maxSteps:=9^9) only[go_sem]
 all_goals repeat refine AI ?_
 all_goals first|kernel_rfl|omega|rfl
def arAt (l:List DT) (i:Nat):Prop:=tourB (nth (t:=tTour) l i)=true/\∀ j,j < i->stTB (nth (t:=tTour) l i) 0 (nth (t:=tTour) l j) 0=false
def arP (l:List DT):Prop:=∀ i,i < l.length->arAt l i
noncomputable def arB (l:List DT):Bool:=decide (1<=(l.length:Int)/\(l.length:Int)<=3) && bdec (arP l)
theorem nth_take {l:List DT} {i j:Nat} (h:j < i) (h2:i<=l.length):nth (t:=tTour) (l.take i) j=nth (t:=tTour) l j:=by
 rw [nth_lt (t:=tTour) (l:=l.take i) (by rw [List.length_take]; omega),nth_lt (t:=tTour) (l:=l) (by omega),List.getElem_take]
theorem mem_take_nth {l:List DT} {i:Nat} {y:DT} (h:y ∈ l.take i) (h2:i<=l.length):∃ j,j < i/\nth (t:=tTour) l j=y:=by
 obtain ⟨j,hj,rfl⟩:=List.getElem_of_mem h
 rw [List.length_take] at hj
 exact ⟨j,by omega,by rw [<-nth_take (by omega) h2,nth_lt]⟩
theorem AreToursI_fn (l:List DT):Fn Tryz.prog 11 [⟨.slice tTour,l⟩] false [⟨.bool,arB l⟩]:=by
 have c0:=within_fn l.length 1 3
 unfold arB
 by_cases h0:1<=(l.length:Int)/\(l.length:Int)<=3
 ·rw [decide_eq_true h0] at c0 ⊢
  refine fe Tryz.func11 Tryz.ntmps11 Tryz.results11 fun hwf=>?_
  try simp (maxSteps:=9^9) only[go_sem]
  repeat refine AI ?_
  refine cw c0 ?_
  try simp (maxSteps:=9^9) only[go_sem]
  refine LoopG.intro _ _ _ (fun i:Nat=>⟨[(0,.sl tTour l),(9,.sl tTour l),(10,.sc (.int .i64 l.length)),(11,.sc (.int .i64 i))],[]⟩) (fun i=>i<=l.length/\∀ j,j < i->arAt l j) (fun i=>l.length - i) 0 ?_ ⟨Nat.zero_le _,fun j h=>absurd h (Nat.not_lt_zero _)⟩ ?_
  ·exact WK
  ·rintro i ⟨hi,hall⟩
   try simp (maxSteps:=9^9) only[go_sem]
   refine CondW_dec (fun hA=>?_) (fun hA=>?_)
   ·have hlt:i < l.length:=by omega
    have c1:=implIsValidTour_fn (nth (t:=tTour) l i)
    cases ht:tourB (nth (t:=tTour) l i)<;>rw [ht] at c1
    ·have e:bdec (arP l)=false:=bdec_f fun h=>by have:=(h i hlt).1; rw [ht] at this; cases this
     rw [e]
     try simp (maxSteps:=9^9) only[go_sem]
     repeat refine AI ?_
     repeat refine AI ?_
     refine cw c1 ?_
     try simp (maxSteps:=9^9) only[go_sem]
     all_goals repeat refine AI ?_
     all_goals first|kernel_rfl|omega|rfl
    ·have hF:∀ y ∈ l.take i,Fn Tryz.prog 40 (⟨tTour,y⟩ :: capD (.ext .ref tTour) (some (nth (t:=tTour) l i))) false [⟨.bool,stTB (nth (t:=tTour) l i) 0 y 0⟩]:=fun y hy=>by
      obtain ⟨j,hj,rfl⟩:=mem_take_nth hy (by omega)
      exact areToursC_fn _ _ ht (hall j hj).1
     have c2:=containsFunc_tour_fn 40 (.ext .ref tTour) (some (nth (t:=tTour) l i)) (fun y=>stTB (nth (t:=tTour) l i) 0 y 0) (l.take i) hF
     cases ha:(l.take i).any (fun y=>stTB (nth (t:=tTour) l i) 0 y 0)<;>rw [ha] at c2
     ·try simp (maxSteps:=9^9) only[go_sem]
      repeat refine AI ?_
      repeat refine AI ?_
      refine cw c1 ?_
      try simp (maxSteps:=9^9) only[go_sem]
      repeat refine AI ?_
      repeat refine AI ?_
      refine CallK.mk (c2) ?_
      try simp (maxSteps:=9^9) only[go_sem]
      repeat refine AI ?_
      refine LoopK.mk (i+1) ?_ ⟨by omega,fun j hj=>?_⟩ (by omega)
      ·exact WK
      ·by_cases h:j < i
       ·exact hall j h
       ·rw [show j=i by omega]
        refine ⟨ht,fun j' hj'=>?_⟩
        rw [List.any_eq_false] at ha
        have:=ha (nth (t:=tTour) l j') (by rw [<-nth_take hj' (by omega)]; exact nth_memT (t:=tTour) (by rw [List.length_take]; omega))
        simpa using this
     ·have e:bdec (arP l)=false:=bdec_f fun h=>by
       obtain ⟨y,hy,hyt⟩:=List.any_eq_true.1 ha
       obtain ⟨j,hj,rfl⟩:=mem_take_nth hy (by omega)
       have:=(h i hlt).2 j hj
       rw [this] at hyt; cases hyt
      rw [e]
      try simp (maxSteps:=9^9) only[go_sem]
      repeat refine AI ?_
      repeat refine AI ?_
      refine cw c1 ?_
      try simp (maxSteps:=9^9) only[go_sem]
      repeat refine AI ?_
      repeat refine AI ?_
      refine CallK.mk (c2) ?_
      try simp (maxSteps:=9^9) only[go_sem]
      all_goals repeat refine AI ?_
      all_goals first|kernel_rfl|omega|rfl
   ·have e:bdec (arP l)=true:=bdec_t fun j hj=>hall j (by omega)
    rw [e]
    try simp (maxSteps:=9^9) only[go_sem]
    all_goals repeat refine AI ?_
    all_goals first|kernel_rfl|omega|rfl
 ·rw [decide_eq_false h0] at c0 ⊢
  refine fe Tryz.func11 Tryz.ntmps11 Tryz.results11 fun hwf=>?_
  try simp (maxSteps:=9^9) only[go_sem]
  repeat refine AI ?_
  refine cw c0 ?_
  try simp (maxSteps:=9^9) only[go_sem]
  all_goals repeat refine AI ?_
  all_goals first|kernel_rfl|omega|rfl
theorem stTouch_tt {a b:DT} (ha:tourB a=true) (hb:tourB b=true):stTouch b 0 a 0=stTB a 0 b 0:=by
 unfold stTouch standB
 rw [ha,hb,decide_eq_true (p:=0<=(0:Int)/\(0:Int)<=(b.2.2.length:Int)) (by omega),decide_eq_true (p:=0<=(0:Int)/\(0:Int)<=(a.2.2.length:Int)) (by omega),Bool.and_self,Bool.true_and,Bool.true_and,stTB_symm hb ha]
theorem AreToursS_fn (l:List DT):Fn Tryz.prog 51 [⟨.slice tTour,l⟩] false [⟨.bool,arB l⟩]:=by
 have c0:=l01In_fn l.length 1 3
 unfold arB
 refine fe Tryz.func51 Tryz.ntmps51 Tryz.results51 fun hwf=>?_
 have hl:l.length<=9223372036854775807:=(hwf ⟨.slice tTour,l⟩ (by simp)).1
 try simp (maxSteps:=9^9) only[go_sem]
 refine LoopG.intro _ _ _ (fun i:Nat=>⟨[(0,.sl tTour l),(7,.sl tTour l),(8,.sc (.int .i64 l.length)),(9,.sc (.int .i64 i))],[]⟩) (fun i=>i<=l.length/\∀ j,j < i->arAt l j) (fun i=>l.length - i) 0 ?_ ⟨Nat.zero_le _,fun j h=>absurd h (Nat.not_lt_zero _)⟩ ?_
 ·exact WK
 ·rintro i ⟨hi,hall⟩
  try simp (maxSteps:=9^9) only[go_sem]
  refine CondW_dec (fun hA=>?_) (fun hA=>?_)
  ·have hlt:i < l.length:=by omega
   have c1:=specIsValidTour_fn (nth (t:=tTour) l i)
   cases ht:tourB (nth (t:=tTour) l i)<;>rw [ht] at c1
   ·have e:bdec (arP l)=false:=bdec_f fun h=>by have:=(h i hlt).1; rw [ht] at this; cases this
    rw [e,Bool.and_false]
    try simp (maxSteps:=9^9) only[go_sem]
    repeat refine AI ?_
    repeat refine AI ?_
    refine cw c1 ?_
    try simp (maxSteps:=9^9) only[go_sem]
    all_goals repeat refine AI ?_
    all_goals first|kernel_rfl|omega|rfl
   ·have hlm:(l.take i).length=i:=by rw [List.length_take]; omega
    try simp (maxSteps:=9^9) only[go_sem]
    repeat refine AI ?_
    repeat refine AI ?_
    refine cw c1 ?_
    try simp (maxSteps:=9^9) only[go_sem]
    repeat refine AI ?_
    try simp (maxSteps:=9^9) only[go_sem,hlm]
    refine LoopG.intro _ _ _ (fun j:Nat=>⟨[(0,.sl tTour l),(4,.ptr 0 0),(7,.sl tTour l),(8,.sc (.int .i64 l.length)),(9,.sc (.int .i64 i)),(19,.sl tTour (l.take i)),(20,.sc (.int .i64 i)),(21,.sc (.int .i64 j))],[(0,.box (cel tTour (nth (t:=tTour) l i)))]⟩) (fun j=>j<=i/\∀ j',j' < j->stTB (nth (t:=tTour) l i) 0 (nth (t:=tTour) l j') 0=false) (fun j=>i - j) 0 ?_ ⟨Nat.zero_le _,fun j h=>absurd h (Nat.not_lt_zero _)⟩ ?_
    ·exact WK
    ·rintro j ⟨hj,hno⟩
     try simp (maxSteps:=9^9) only[go_sem]
     refine CondW_dec (fun hB=>?_) (fun hB=>?_)
     ·have hjl:j < i:=by omega
      have htj:=(hall j hjl).1
      have c2:=StandsTouchS_fn (nth (t:=tTour) l j) 0 (nth (t:=tTour) l i) 0
      rw [stTouch_tt ht htj] at c2
      rw [<-nth_take hjl (by omega)] at c2
      cases hs:stTB (nth (t:=tTour) l i) 0 (nth (t:=tTour) l j) 0<;>rw [nth_take hjl (by omega),hs] at c2<;>rw [<-nth_take hjl (by omega)] at c2
      ·try simp (maxSteps:=9^9) only[go_sem,hlm]
       repeat refine AI ?_
       repeat refine AI ?_
       refine cw c2 ?_
       try simp (maxSteps:=9^9) only[go_sem]
       repeat refine AI ?_
       refine LoopK.mk (j+1) ?_ ⟨by omega,fun j' hj'=>?_⟩ (by omega)
       ·exact WK
       ·by_cases h:j' < j
        ·exact hno j' h
        ·rw [show j'=j by omega]; exact hs
      ·have e:bdec (arP l)=false:=bdec_f fun h=>by have:=(h i hlt).2 j hjl; rw [hs] at this; cases this
       rw [e,Bool.and_false]
       try simp (maxSteps:=9^9) only[go_sem,hlm]
       repeat refine AI ?_
       repeat refine AI ?_
       refine cw c2 ?_
       try simp (maxSteps:=9^9) only[go_sem]
       all_goals repeat refine AI ?_
       all_goals first|kernel_rfl|omega|rfl
     ·try simp (maxSteps:=9^9) only[go_sem]
      repeat refine AI ?_
      refine LoopK.mk (i+1) ?_ ⟨by omega,fun j' hj'=>?_⟩ (by omega)
      ·exact WK
      ·by_cases h:j' < i
       ·exact hall j' h
       ·rw [show j'=i by omega]
        exact ⟨ht,fun j2 hj2=>hno j2 (by omega)⟩
  ·have e:bdec (arP l)=true:=bdec_t fun j hj=>hall j (by omega)
   rw [e,Bool.and_true]
   try simp (maxSteps:=9^9) only[go_sem]
   repeat refine AI ?_
   refine cw c0 ?_
   try simp (maxSteps:=9^9) only[go_sem]
   all_goals repeat refine AI ?_
   all_goals first|kernel_rfl|omega|rfl
noncomputable def oneO:Option Rat:=some (((1:Int)):Rat)
noncomputable def zeroO:Option Rat:=some (((0:Int)):Rat)
theorem ratI_1:ratI 1=oD oneO:=ratI_eq 1
theorem ratI_z:ratI 0=oD zeroO:=ratI_eq 0
theorem ok_small {n:Int} (h:n.natAbs<=1000000):okO (some ((n:Int):Rat)):=by
 intro q hq; injection hq with hq; subst hq
 exact ⟨Nat.le_trans (nl_small (n:=n.natAbs) (by omega)) (by decide),Nat.le_trans (nl_small (n:=1) (by decide)) (by decide)⟩
theorem okO_one:okO oneO:=ok_small (by decide)
theorem okO_zero:okO zeroO:=ok_small (by decide)
theorem ratLt_as {p q:Rat} (h1:p < q):¬ q < p:=fun h=>absurd (Rat.le_of_lt h) (Rat.not_le.2 h1)
theorem minO_comm (x y:Option Rat):minO x y=minO y x:=by
 cases x with
 | none=>cases y<;>rfl
 | some p =>
  cases y with
  | none=>rfl
  | some q =>
   show (if cmpQ p q<=0 then some p else some q)=(if cmpQ q p<=0 then some q else some p)
   unfold cmpQ
   by_cases h1:p < q
   ·have h2:¬ q < p:=ratLt_as h1
    simp [h1,h2]
   ·by_cases h2:q < p
    ·simp [h1,h2]
    ·simp [h1,h2]
     exact Rat.le_antisymm (Rat.not_lt.1 h2) (Rat.not_lt.1 h1)
theorem maxO_comm (x y:Option Rat):maxO x y=maxO y x:=by
 cases x with
 | none=>cases y<;>rfl
 | some p =>
  cases y with
  | none=>rfl
  | some q =>
   show (if 0<=cmpQ p q then some p else some q)=(if 0<=cmpQ q p then some q else some p)
   unfold cmpQ
   by_cases h1:p < q
   ·have h2:¬ q < p:=ratLt_as h1
    simp [h1,h2]
   ·by_cases h2:q < p
    ·simp [h1,h2]
    ·simp [h1,h2]
     exact Rat.le_antisymm (Rat.not_lt.1 h2) (Rat.not_lt.1 h1)
noncomputable def tD (p a b:DP):Option Rat:=minO oneO (maxO zeroO (divO (inD a p b) (sqD a b)))
noncomputable def nearD (a b:DP) (t:Option Rat):DP:=(oD (addO (rdO a.1) (mulO t (subO (rdO b.1) (rdO a.1)))),oD (addO (rdO a.2) (mulO t (subO (rdO b.2) (rdO a.2)))))
noncomputable def segD (p a b:DP):Option Rat:=if eqb a b then sqD p a else sqD p (nearD a b (tD p a b))
theorem okO_segD (p a b:DP):okO (segD p a b):=by unfold segD; split<;>exact okO_sqD _ _
theorem okO_tD (p a b:DP):okO (tD p a b):=okO_min okO_one (okO_max okO_zero (okO_div _ _))
theorem gP_near (a b:DP) (t:Option Rat):gP (nearD a b t):=gP_mk (okO_add _ _) (okO_add _ _)
set_option maxHeartbeats 1000000 in
theorem toSegment_fn (p a b:DP) (hp:gP p) (ha:gP a) (hb:gP b):Fn Tryz.prog 214 [⟨tPoint,p⟩,⟨tPoint,a⟩,⟨tPoint,b⟩] true [⟨tRat,oD (segD p a b)⟩]:=by
 have c0:=implSame_fn a b
 unfold segD
 cases h:eqb a b<;>rw [h] at c0
 ·rw [if_neg (by decide)]
  have c1:=inner_fn a p b ha hp hb
  have c2:=squareDistance_fn a b ha hb
  have c3:=ratDiv_fn (inD a p b) (sqD a b) (okO_inD _ _ _) (okO_sqD _ _)
  have c4:=ratInt_fn 1
  have c5:=ratInt_fn 0
  rw [ratI_1] at c4
  rw [ratI_z] at c5
  have c6:=ratMax_fn zeroO (divO (inD a p b) (sqD a b)) okO_zero (okO_div _ _)
  have c7:=ratMin_fn oneO (maxO zeroO (divO (inD a p b) (sqD a b))) okO_one (okO_max okO_zero (okO_div _ _))
  have e7:minO oneO (maxO zeroO (divO (inD a p b) (sqD a b)))=tD p a b:=rfl
  rw [e7] at c7
  have c8:=ratSub_fn (rdO b.1) (rdO a.1) (okO_rdO _) (okO_rdO _)
  have c9:=ratMul_fn (tD p a b) (subO (rdO b.1) (rdO a.1)) (okO_tD _ _ _) (okO_sub _ _)
  have c10:=ratAdd_fn (rdO a.1) (mulO (tD p a b) (subO (rdO b.1) (rdO a.1))) (okO_rdO _) (okO_mul _ _)
  have c11:=ratSub_fn (rdO b.2) (rdO a.2) (okO_rdO _) (okO_rdO _)
  have c12:=ratMul_fn (tD p a b) (subO (rdO b.2) (rdO a.2)) (okO_tD _ _ _) (okO_sub _ _)
  have c13:=ratAdd_fn (rdO a.2) (mulO (tD p a b) (subO (rdO b.2) (rdO a.2))) (okO_rdO _) (okO_mul _ _)
  rw [gP_1 ha,gP_1 hb] at c8
  rw [gP_1 ha] at c10
  rw [gP_2 ha,gP_2 hb] at c11
  rw [gP_2 ha] at c13
  have c14:=squareDistance_fn p (nearD a b (tD p a b)) hp (gP_near _ _ _)
  unfold nearD at c14 ⊢
  generalize tD p a b=t at c7 c9 c10 c12 c13 c14 ⊢
  generalize divO (inD a p b) (sqD a b)=dv at c3 c6 c7
  refine fe Tryz.func214 Tryz.ntmps214 Tryz.results214 fun hwf=>?_
  try simp (maxSteps:=9^9) only[go_sem]
  repeat refine AI ?_
  refine cw c0 ?_
  try simp (maxSteps:=9^9) only[go_sem]
  repeat refine AI ?_
  repeat refine AI ?_
  refine cw c1 ?_
  try simp (maxSteps:=9^9) only[go_sem]
  repeat refine AI ?_
  refine cw c2 ?_
  try simp (maxSteps:=9^9) only[go_sem]
  repeat refine AI ?_
  refine cw c3 ?_
  try simp (maxSteps:=9^9) only[go_sem]
  repeat refine AI ?_
  repeat refine AI ?_
  refine cw c4 ?_
  try simp (maxSteps:=9^9) only[go_sem]
  repeat refine AI ?_
  refine cw c5 ?_
  try simp (maxSteps:=9^9) only[go_sem]
  repeat refine AI ?_
  refine cw c6 ?_
  try simp (maxSteps:=9^9) only[go_sem]
  repeat refine AI ?_
  refine cw c7 ?_
  try simp (maxSteps:=9^9) only[go_sem]
  repeat refine AI ?_
  repeat refine AI ?_
  refine cw c8 ?_
  try simp (maxSteps:=9^9) only[go_sem]
  repeat refine AI ?_
  refine cw c9 ?_
  try simp (maxSteps:=9^9) only[go_sem]
  repeat refine AI ?_
  refine cw c10 ?_
  try simp (maxSteps:=9^9) only[go_sem]
  repeat refine AI ?_
  refine cw c11 ?_
  try simp (maxSteps:=9^9) only[go_sem]
  repeat refine AI ?_
  refine cw c12 ?_
  try simp (maxSteps:=9^9) only[go_sem]
  repeat refine AI ?_
  refine cw c13 ?_
  try simp (maxSteps:=9^9) only[go_sem]
  repeat refine AI ?_
  repeat refine AI ?_
  refine cw c14 ?_
  try simp (maxSteps:=9^9) only[go_sem]
  all_goals repeat refine AI ?_
  all_goals first|kernel_rfl|omega|rfl
 ·rw [if_pos rfl]
  have c1:=squareDistance_fn p a hp ha
  refine fe Tryz.func214 Tryz.ntmps214 Tryz.results214 fun hwf=>?_
  try simp (maxSteps:=9^9) only[go_sem]
  repeat refine AI ?_
  refine cw c0 ?_
  try simp (maxSteps:=9^9) only[go_sem]
  repeat refine AI ?_
  refine cw c1 ?_
  try simp (maxSteps:=9^9) only[go_sem]
  all_goals repeat refine AI ?_
  all_goals first|kernel_rfl|omega|rfl
theorem cap_z:capR (0:Rat)=zeroO:=by
 have:=okO_zero _ rfl
 exact capR_s (q:=((0:Int):Rat)) this
theorem sqD_self {a:DP} (h:okPt a=true):sqD a a=zeroO:=by
 obtain ⟨p1,p2⟩:=Bool.and_eq_true_iff.1 (show (okR a.1 && okR a.2)=true from h)
 obtain ⟨x,_,_,e1⟩:=okR_t p1
 obtain ⟨y,_,_,e2⟩:=okR_t p2
 have s:∀ x:Rat,subO (some x) (some x)=zeroO:=fun x=>by
  show capR (x+-x)=_
  rw [<-Rat.sub_eq_add_neg,Rat.sub_self,cap_z]
 have m:mulO zeroO zeroO=zeroO:=by
  show capR (((0:Int):Rat) * ((0:Int):Rat))=_
  rw [show (((0:Int):Rat) * ((0:Int):Rat))=0 from Rat.zero_mul _,cap_z]
 unfold sqD
 rw [e1,e2,s,s,m]
 show capR (((0:Int):Rat)+((0:Int):Rat))=_
 rw [show (((0:Int):Rat)+((0:Int):Rat))=0 from Rat.add_zero _,cap_z]
theorem capR_some {q r:Rat} (h:capR q=some r):r=q:=by
 by_cases hs:small q
 ·rw [capR_s hs] at h; injection h with h; exact h.symm
 ·rw [capR_n hs] at h; cases h
theorem rat_sq_nn (x:Rat):0<=x * x:=by
 rcases Rat.le_total (a:=0) (b:=x) with h|h
 ·exact Rat.mul_nonneg h h
 ·have h2:0<=-x:=by have:=Rat.neg_le_neg h; rwa [Rat.neg_zero] at this
  have:=Rat.mul_nonneg h2 h2
  rwa [Rat.neg_mul,Rat.mul_neg,Rat.neg_neg] at this
theorem rat_sum_z {x y:Rat} (hx:0<=x) (hy:0<=y) (h:x+y=0):x=0/\y=0:=by
 have h1:x<=0:=by have:=(Rat.add_le_add_left (c:=x)).2 hy; rwa [Rat.add_zero,h] at this
 have hx0:=Rat.le_antisymm h1 hx
 subst hx0
 rw [Rat.zero_add] at h
 exact ⟨rfl,h⟩
theorem subO_z {x y:Option Rat} {d:Rat} (h:subO x y=some d) (hd:d=0):x=y:=by
 cases x with
 | none=>cases h
 | some p =>
  cases y with
  | none=>cases h
  | some q =>
   have e:=capR_some (show capR (p+-q)=some d from h)
   rw [hd,<-Rat.sub_eq_add_neg] at e
   have:p=q:=by
    have h2:p - q+q=0+q:=by rw [<-e]
    rwa [Rat.sub_add_cancel,Rat.zero_add] at h2
   rw [this]
theorem mulO_some {x:Option Rat} {u:Rat} (h:mulO x x=some u):∃ d,x=some d/\u=d * d:=by
 cases x with
 | none=>cases h
 | some d=>exact ⟨d,rfl,capR_some h⟩
theorem sqD_zero {a b:DP} (ha:okPt a=true) (hb:okPt b=true) (h:sqD a b=some 0):a=b:=by
 obtain ⟨a1,a2⟩:=Bool.and_eq_true_iff.1 (show (okR a.1 && okR a.2)=true from ha)
 obtain ⟨b1,b2⟩:=Bool.and_eq_true_iff.1 (show (okR b.1 && okR b.2)=true from hb)
 unfold sqD at h
 cases hu:mulO (subO (rdO a.1) (rdO b.1)) (subO (rdO a.1) (rdO b.1)) with
 | none=>rw [hu] at h; cases h
 | some u =>
  cases hv:mulO (subO (rdO a.2) (rdO b.2)) (subO (rdO a.2) (rdO b.2)) with
  | none=>rw [hu,hv] at h; cases h
  | some v =>
   rw [hu,hv] at h
   have hz:=capR_some (show capR (u+v)=some 0 from h)
   obtain ⟨d,hd,e1⟩:=mulO_some hu
   obtain ⟨e,he,e2⟩:=mulO_some hv
   obtain ⟨z1,z2⟩:=rat_sum_z (e1 ▸ rat_sq_nn d) (e2 ▸ rat_sq_nn e) hz.symm
   have d0:d=0:=by rw [e1] at z1; exact (Rat.mul_eq_zero.1 z1).elim id id
   have e0:e=0:=by rw [e2] at z2; exact (Rat.mul_eq_zero.1 z2).elim id id
   have q1:=subO_z hd d0
   have q2:=subO_z he e0
   refine Prod.ext ?_ ?_
   ·rw [<-okR_oD a1,<-okR_oD b1,q1]
   ·rw [<-okR_oD a2,<-okR_oD b2,q2]
theorem sgnO_zero {x:Option Rat} (h:sgnO x=0):x=none\/x=some 0:=by
 cases x with
 | none=>exact .inl rfl
 | some p =>
  refine .inr ?_
  have h:cmpQ p 0=0:=h
  unfold cmpQ at h
  by_cases h1:p < 0
  ·simp [h1] at h
  ·by_cases h2:0 < p
   ·simp [h1,h2] at h
   ·rw [Rat.le_antisymm (Rat.not_lt.1 h2) (Rat.not_lt.1 h1)]
theorem segD_none {p a b:DP} (ha:okPt a=true) (h:sqD a b=none):segD p a b=none:=by
 have hne:eqb a b=false:=by
  refine eqb_false fun e=>?_
  subst e
  rw [sqD_self ha] at h; cases h
 unfold segD
 rw [hne,if_neg (by decide)]
 have ht:tD p a b=none:=by unfold tD; rw [h,divO_none_r]; rfl
 rw [ht]
 unfold sqD nearD
 rw [mulO_none_l,show addO (rdO a.1) none=none by cases rdO a.1<;>rfl,rdO_oD okO_none]
 rw [show subO (rdO p.1) none=none by cases rdO p.1<;>rfl]
 rfl
theorem addO_z {x:Option Rat} (h:okO x):addO zeroO x=x:=by
 cases x with
 | none=>rfl
 | some p =>
  show capR (((0:Int):Rat)+p)=some p
  rw [show (((0:Int):Rat)+p)=p from Rat.zero_add p]
  exact capR_s (h p rfl)
set_option maxHeartbeats 1000000 in
theorem SquareToSegmentS_fn (p a b:DP) (ha:okPt a=true) (hb:okPt b=true):Fn Tryz.prog 239 [⟨tPoint,p⟩,⟨tPoint,a⟩,⟨tPoint,b⟩] true [⟨tRat,oD (segD p a b)⟩]:=by
 have c1:=SquareDistanceS_fn a b
 have c2:=specRatSign_fn (oD (sqD a b))
 rw [rdO_oD (okO_sqD _ _)] at c2
 by_cases hz:sgnO (sqD a b)=0
 ·have d1:=decide_eq_true hz
  have c3:=specRatMul_fn (oD (sqD a b)) (oD (sqD a b))
  rw [rdO_oD (okO_sqD _ _)] at c3
  have c4:=SquareDistanceS_fn p a
  have c5:=specRatAdd_fn (oD (mulO (sqD a b) (sqD a b))) (oD (sqD p a))
  rw [rdO_oD (okO_mul _ _),rdO_oD (okO_sqD _ _)] at c5
  have e:addO (mulO (sqD a b) (sqD a b)) (sqD p a)=segD p a b:=by
   rcases sgnO_zero hz with h|h
   ·rw [segD_none ha h,h]; rfl
   ·have hab:=sqD_zero ha hb h
    subst hab
    have m:mulO (some 0) (some 0)=zeroO:=by
     show capR ((0:Rat) * 0)=_
     rw [Rat.zero_mul,cap_z]
    unfold segD
    rw [h,m,addO_z (okO_sqD _ _),eqb_true rfl,if_pos rfl]
  rw [e] at c5
  refine fe Tryz.func239 Tryz.ntmps239 Tryz.results239 fun hwf=>?_
  try simp (maxSteps:=9^9) only[go_sem]
  repeat refine AI ?_
  refine cw c1 ?_
  try simp (maxSteps:=9^9) only[go_sem]
  repeat refine AI ?_
  refine cw c2 ?_
  try simp (maxSteps:=9^9) only[go_sem]
  try simp (maxSteps:=9^9) only[go_sem,d1]
  repeat refine AI ?_
  refine cw c3 ?_
  try simp (maxSteps:=9^9) only[go_sem]
  repeat refine AI ?_
  refine cw c4 ?_
  try simp (maxSteps:=9^9) only[go_sem]
  repeat refine AI ?_
  refine cw c5 ?_
  try simp (maxSteps:=9^9) only[go_sem]
  all_goals repeat refine AI ?_
  all_goals first|kernel_rfl|omega|rfl
 ·have d1:=decide_eq_false hz
  have hne:eqb a b=false:=by
   refine eqb_false fun e=>?_
   subst e
   rw [sqD_self ha] at hz
   exact hz (cmpQ_self _)
  have c3:=InnerProductS_fn a b p
  rw [inD_comm] at c3
  have c4:=specRatDiv_fn (oD (inD a p b)) (oD (sqD a b))
  rw [rdO_oD (okO_inD _ _ _),rdO_oD (okO_sqD _ _)] at c4
  have c5:=RatFromInt_fn 0
  have c6:=RatFromInt_fn 1
  rw [ratI_z] at c5
  rw [ratI_1] at c6
  have c7:=specRatMax_fn (oD (divO (inD a p b) (sqD a b))) (oD zeroO)
  rw [rdO_oD (okO_div _ _),rdO_oD okO_zero,maxO_comm] at c7
  have c8:=specRatMin_fn (oD (maxO zeroO (divO (inD a p b) (sqD a b)))) (oD oneO)
  rw [rdO_oD (okO_max okO_zero (okO_div _ _)),rdO_oD okO_one,minO_comm] at c8
  have e7:minO oneO (maxO zeroO (divO (inD a p b) (sqD a b)))=tD p a b:=rfl
  rw [e7] at c8
  have c9:=specRatSub_fn b.1 a.1
  have c10:=specRatMul_fn (oD (tD p a b)) (oD (subO (rdO b.1) (rdO a.1)))
  rw [rdO_oD (okO_tD _ _ _),rdO_oD (okO_sub _ _)] at c10
  have c11:=specRatAdd_fn a.1 (oD (mulO (tD p a b) (subO (rdO b.1) (rdO a.1))))
  rw [rdO_oD (okO_mul _ _)] at c11
  have c12:=specRatSub_fn b.2 a.2
  have c13:=specRatMul_fn (oD (tD p a b)) (oD (subO (rdO b.2) (rdO a.2)))
  rw [rdO_oD (okO_tD _ _ _),rdO_oD (okO_sub _ _)] at c13
  have c14:=specRatAdd_fn a.2 (oD (mulO (tD p a b) (subO (rdO b.2) (rdO a.2))))
  rw [rdO_oD (okO_mul _ _)] at c14
  have c15:=SquareDistanceS_fn p (nearD a b (tD p a b))
  unfold segD
  rw [hne,if_neg (by decide)]
  unfold nearD at c15 ⊢
  generalize tD p a b=t at c8 c10 c11 c13 c14 c15 ⊢
  generalize divO (inD a p b) (sqD a b)=dv at c4 c7 c8
  refine fe Tryz.func239 Tryz.ntmps239 Tryz.results239 fun hwf=>?_
  try simp (maxSteps:=9^9) only[go_sem]
  repeat refine AI ?_
  refine cw c1 ?_
  try simp (maxSteps:=9^9) only[go_sem]
  repeat refine AI ?_
  refine cw c2 ?_
  try simp (maxSteps:=9^9) only[go_sem]
  try simp (maxSteps:=9^9) only[go_sem,d1]
  repeat refine AI ?_
  refine cw c3 ?_
  try simp (maxSteps:=9^9) only[go_sem]
  repeat refine AI ?_
  refine cw c4 ?_
  try simp (maxSteps:=9^9) only[go_sem]
  repeat refine AI ?_
  repeat refine AI ?_
  refine cw c5 ?_
  try simp (maxSteps:=9^9) only[go_sem]
  repeat refine AI ?_
  refine cw c7 ?_
  try simp (maxSteps:=9^9) only[go_sem]
  repeat refine AI ?_
  refine cw c6 ?_
  try simp (maxSteps:=9^9) only[go_sem]
  repeat refine AI ?_
  refine cw c8 ?_
  try simp (maxSteps:=9^9) only[go_sem]
  repeat refine AI ?_
  repeat refine AI ?_
  refine cw c9 ?_
  try simp (maxSteps:=9^9) only[go_sem]
  repeat refine AI ?_
  refine cw c10 ?_
  try simp (maxSteps:=9^9) only[go_sem]
  repeat refine AI ?_
  refine cw c11 ?_
  try simp (maxSteps:=9^9) only[go_sem]
  repeat refine AI ?_
  refine cw c12 ?_
  try simp (maxSteps:=9^9) only[go_sem]
  repeat refine AI ?_
  refine cw c13 ?_
  try simp (maxSteps:=9^9) only[go_sem]
  repeat refine AI ?_
  refine cw c14 ?_
  try simp (maxSteps:=9^9) only[go_sem]
  repeat refine AI ?_
  repeat refine AI ?_
  refine cw c15 ?_
  try simp (maxSteps:=9^9) only[go_sem]
  all_goals repeat refine AI ?_
  all_goals first|kernel_rfl|omega|rfl
theorem cmpQ_le {p q:Rat}:cmpQ p q<=0 ↔ p<=q:=by
 unfold cmpQ
 by_cases h1:p < q
 ·simp [h1,Rat.le_of_lt h1]
 ·by_cases h2:q < p
  ·simp [h1,h2]; exact Rat.not_le.2 h2
  ·simp [h1,h2]; exact Rat.not_lt.1 h2
theorem minO_le {p q:Rat} (h:p<=q):minO (some p) (some q)=some p:=by
 show (if cmpQ p q<=0 then some p else some q)=_
 rw [if_pos (cmpQ_le.2 h)]
theorem minO_ge {p q:Rat} (h:q<=p):minO (some p) (some q)=some q:=by rw [minO_comm,minO_le h]
theorem minO_self (x:Option Rat):minO x x=x:=by
 cases x with
 | none=>rfl
 | some p=>exact minO_le Rat.le_refl
theorem minO_nr (x:Option Rat):minO x none=none:=by cases x<;>rfl
theorem minO_assoc (x y z:Option Rat):minO (minO x y) z=minO x (minO y z):=by
 cases x with
 | none=>cases y<;>cases z<;>rfl
 | some p =>
  cases y with
  | none=>cases z<;>rfl
  | some q =>
   cases z with
   | none=>rw [minO_nr,minO_nr,minO_nr]
   | some r =>
    rcases Rat.le_total (a:=p) (b:=q) with h1|h1
    ·rw [minO_le h1]
     rcases Rat.le_total (a:=q) (b:=r) with h2|h2
     ·rw [minO_le h2,minO_le h1,minO_le (Rat.le_trans h1 h2)]
     ·rw [minO_ge h2]
    ·rw [minO_ge h1]
     rcases Rat.le_total (a:=q) (b:=r) with h2|h2
     ·rw [minO_le h2,minO_ge h1]
     ·rw [minO_ge h2,minO_ge (Rat.le_trans h2 h1)]
noncomputable def edO (l:List DV) (p:DP) (i:Nat):Option Rat:=segD p (ptV (nth (t:=tVec) l i)) (ptV (nth (t:=tVec) l (nxt l.length i).toNat))
noncomputable def leS (l:List DV) (p:DP):Nat->Option Rat
 | 0=>edO l p 0
 | i+1=>minO (leS l p i) (edO l p i)
noncomputable def leI (l:List DV) (p:DP):Nat->Option Rat
 | 0=>edO l p (l.length - 1)
 | i+1=>minO (leI l p i) (edO l p i)
theorem leI_S (l:List DV) (p:DP):∀ i,leI l p (i+1)=minO (edO l p (l.length - 1)) (leS l p (i+1))
 | 0=>by show minO (edO l p (l.length - 1)) (edO l p 0)=minO _ (minO (edO l p 0) (edO l p 0)); rw [minO_self]
 | i+1=>by
  show minO (leI l p (i+1)) _=minO _ (minO (leS l p (i+1)) _)
  rw [leI_S l p i,minO_assoc]
theorem leI_all {l:List DV} (p:DP) (h:2<=l.length):leI l p (l.length - 1)=leS l p l.length:=by
 obtain ⟨n,hn⟩:∃ n,l.length=n+2:=⟨l.length - 2,by omega⟩
 have:=leI_S l p n
 rw [show l.length - 1=n+1 by omega,this,hn]
 show minO _ _=minO (leS l p (n+1)) (edO l p (n+1))
 rw [minO_comm,show n+2 - 1=n+1 by omega]
theorem okO_edO (l:List DV) (p:DP) (i:Nat):okO (edO l p i):=okO_segD _ _ _
theorem okO_leS (l:List DV) (p:DP):∀ i,okO (leS l p i)
 | 0=>okO_edO _ _ _
 | i+1=>okO_min (okO_leS l p i) (okO_edO _ _ _)
theorem okO_leI (l:List DV) (p:DP):∀ i,okO (leI l p i)
 | 0=>okO_edO _ _ _
 | i+1=>okO_min (okO_leI l p i) (okO_edO _ _ _)
noncomputable def tpD (l:List DV) (p:DP):Option Rat:=if 0<=cntI l p l.length then zeroO else leS l p l.length
theorem okO_tpD (l:List DV) (p:DP):okO (tpD l p):=by
 unfold tpD; split
 ·exact okO_zero
 ·exact okO_leS _ _ _
set_option maxHeartbeats 1000000 in
theorem toPolygon_fn (l:List DV) (p:DP) (hl:polyP l) (hp:okPt p=true):Fn Tryz.prog 173 [⟨.slice tVec,l⟩,⟨tPoint,p⟩] false [⟨tRat,oD (tpD l p)⟩]:=by
 have h3:3<=l.length:=by have:=hl.1.1; omega
 have hn:l.length<=1048576:=by have:=hl.1.2; omega
 have c1:=contains_fn l p hl.2.1 hn hp
 have c3:=pointsOf_fn l hn
 have hml:(l.map ptV).length=l.length:=List.length_map ..
 have ptok:∀ i,i < l.length->okPt (ptV (nth (t:=tVec) l i))=true:=fun i hi=>okPt_ptV (hl.2.1 _ (nth_mem hi))
 by_cases h0:0<=cntI l p l.length
 ·have d1:=decide_eq_true (p:=cntI l p l.length ≥ 0) h0
  have c2:=ratInt_fn 0
  rw [ratI_z] at c2
  rw [show tpD l p=zeroO from if_pos h0]
  refine fe Tryz.func173 Tryz.ntmps173 Tryz.results173 fun hwf=>?_
  try simp (maxSteps:=9^9) only[go_sem]
  repeat refine AI ?_
  refine cw c1 ?_
  try simp (maxSteps:=9^9) only[go_sem]
  try simp (maxSteps:=9^9) only[go_sem,d1]
  repeat refine AI ?_
  refine cw c2 ?_
  try simp (maxSteps:=9^9) only[go_sem]
  all_goals repeat refine AI ?_
  all_goals first|kernel_rfl|omega|rfl
 ·have d1:=decide_eq_false (p:=cntI l p l.length ≥ 0) h0
  rw [show tpD l p=leS l p l.length from if_neg h0,<-leI_all p (by omega)]
  have s0:=toSegment_fn p (ptV (nth (t:=tVec) l (l.length - 1))) (ptV (nth (t:=tVec) l 0)) (gP_ok hp) (gP_ok (ptok _ (by omega))) (gP_ok (ptok _ (by omega)))
  have e0:segD p (ptV (nth (t:=tVec) l (l.length - 1))) (ptV (nth (t:=tVec) l 0))=leI l p 0:=by
   show _=edO l p (l.length - 1)
   unfold edO
   rw [nxt_end (by omega)]
  rw [e0,<-nth_ptV (by omega),<-nth_ptV (by omega)] at s0
  have ei:((l.length:Int) - 1).toNat=l.length - 1:=by omega
  rw [<-ei] at s0
  refine fe Tryz.func173 Tryz.ntmps173 Tryz.results173 fun hwf=>?_
  try simp (maxSteps:=9^9) only[go_sem]
  repeat refine AI ?_
  refine cw c1 ?_
  try simp (maxSteps:=9^9) only[go_sem]
  try simp (maxSteps:=9^9) only[go_sem,d1]
  repeat refine AI ?_
  refine cw c3 ?_
  try simp (maxSteps:=9^9) only[go_sem]
  try simp (maxSteps:=9^9) only[go_sem,hml]
  repeat refine AI ?_
  repeat refine AI ?_
  refine cw s0 ?_
  try simp (maxSteps:=9^9) only[go_sem]
  repeat refine AI ?_
  refine LoopG.intro _ _ _ (fun i:Nat=>⟨[(3,.ptr 0 0),(4,.ptr 1 0),(5,.sl tPoint (l.map ptV)),(6,.ptr 2 0),(7,.sc (.int .i64 (i+1)))],[(2,.box (cel tRat (oD (leI l p i)))),(1,.box (cel tRat (oD none))),(0,.box (cel tPoint p))]⟩) (fun i=>i+1<=l.length) (fun i=>l.length - i) 0 ?_ (by omega) ?_
  ·refine Wk.mk [(2,5)] ?_
   try simp (maxSteps:=9^9) only[go_sem]
   try (and_intros<;>first|rfl|omega|exact ⟨_,rfl⟩)
  ·rintro i hi
   try simp (maxSteps:=9^9) only[go_sem,hml]
   refine CondW_dec (fun hA=>?_) (fun hA=>?_)
   ·have hlt:i+1 < l.length:=by omega
    have s1:=toSegment_fn p (ptV (nth (t:=tVec) l i)) (ptV (nth (t:=tVec) l (i+1))) (gP_ok hp) (gP_ok (ptok _ (by omega))) (gP_ok (ptok _ (by omega)))
    have e1:segD p (ptV (nth (t:=tVec) l i)) (ptV (nth (t:=tVec) l (i+1)))=edO l p i:=by
     unfold edO
     rw [nxt_lt (by omega)]
    rw [e1,<-nth_ptV (by omega),<-nth_ptV (by omega)] at s1
    have s2:=ratMin_fn (leI l p i) (edO l p i) (okO_leI _ _ _) (okO_edO _ _ _)
    have hst:leI l p (i+1)=minO (leI l p i) (edO l p i):=rfl
    have q1:((i:Int)+1 - 1).toNat=i:=by omega
    have q2:((i:Int)+1).toNat=i+1:=by omega
    try simp (maxSteps:=9^9) only[go_sem]
    repeat refine AI ?_
    rw [q1,q2]
    repeat refine AI ?_
    refine cw s1 ?_
    try simp (maxSteps:=9^9) only[go_sem]
    repeat refine AI ?_
    refine cw s2 ?_
    try simp (maxSteps:=9^9) only[go_sem]
    repeat refine AI ?_
    refine LoopK.mk (i+1) ?_ (by omega) (by omega)
    rw [hst]
    exact WK
   ·rw [show l.length - 1=i by omega]
    try simp (maxSteps:=9^9) only[go_sem]
    all_goals repeat refine AI ?_
    all_goals first|kernel_rfl|omega|rfl
noncomputable def stpD (l:List DV) (p:DP):Option Rat:=if okPt p then tpD l p else none
theorem okO_stpD (l:List DV) (p:DP):okO (stpD l p):=by
 unfold stpD; split
 ·exact okO_tpD _ _
 ·exact okO_none
set_option maxHeartbeats 1000000 in
theorem SquareToPolygonS_fn (l:List DV) (p:DP) (hl:polyP l):Fn Tryz.prog 207 [⟨.slice tVec,l⟩,⟨tPoint,p⟩] false [⟨tRat,oD (stpD l p)⟩]:=by
 have h3:3<=l.length:=by have:=hl.1.1; omega
 have hn:l.length<=1048576:=by have:=hl.1.2; omega
 have c0:=specIsPolygon_fn l
 rw [polyB_t hl] at c0
 have c1:=specIsValidPoint_fn p
 have c2:=ContainsS_fn l p hl
 have ptok:∀ i,i < l.length->okPt (ptV (nth (t:=tVec) l i))=true:=fun i hi=>okPt_ptV (hl.2.1 _ (nth_mem hi))
 unfold stpD
 cases h:okPt p<;>rw [h] at c1
 ·rw [if_neg (by decide)]
  refine fe Tryz.func207 Tryz.ntmps207 Tryz.results207 fun hwf=>?_
  try simp (maxSteps:=9^9) only[go_sem]
  repeat refine AI ?_
  refine cw c0 ?_
  try simp (maxSteps:=9^9) only[go_sem]
  repeat refine AI ?_
  refine cw c1 ?_
  try simp (maxSteps:=9^9) only[go_sem]
  all_goals repeat refine AI ?_
  all_goals first|kernel_rfl|omega|rfl
 ·rw [if_pos rfl]
  have ec:cpD l p=cntI l p l.length:=by unfold cpD; rw [h,if_pos rfl]
  rw [ec] at c2
  by_cases h0:0<=cntI l p l.length
  ·have d1:=decide_eq_true (p:=cntI l p l.length ≥ 0) h0
   have c3:=RatFromInt_fn 0
   rw [ratI_z] at c3
   rw [show tpD l p=zeroO from if_pos h0]
   refine fe Tryz.func207 Tryz.ntmps207 Tryz.results207 fun hwf=>?_
   try simp (maxSteps:=9^9) only[go_sem]
   repeat refine AI ?_
   refine cw c0 ?_
   try simp (maxSteps:=9^9) only[go_sem]
   repeat refine AI ?_
   refine cw c1 ?_
   try simp (maxSteps:=9^9) only[go_sem]
   repeat refine AI ?_
   refine cw c2 ?_
   try simp (maxSteps:=9^9) only[go_sem]
   try simp (maxSteps:=9^9) only[go_sem,d1]
   repeat refine AI ?_
   refine cw c3 ?_
   try simp (maxSteps:=9^9) only[go_sem]
   all_goals repeat refine AI ?_
   all_goals first|kernel_rfl|omega|rfl
  ·have d1:=decide_eq_false (p:=cntI l p l.length ≥ 0) h0
   rw [show tpD l p=leS l p l.length from if_neg h0]
   have v0:=PointOfS_fn (nth (t:=tVec) l 0)
   have v1:=PointOfS_fn (nth (t:=tVec) l 1)
   have s0:=SquareToSegmentS_fn p (ptV (nth (t:=tVec) l 0)) (ptV (nth (t:=tVec) l 1)) (ptok _ (by omega)) (ptok _ (by omega))
   have e0:segD p (ptV (nth (t:=tVec) l 0)) (ptV (nth (t:=tVec) l 1))=leS l p 0:=by
    show _=edO l p 0
    unfold edO
    rw [nxt_lt (by omega)]
   rw [e0] at s0
   refine fe Tryz.func207 Tryz.ntmps207 Tryz.results207 fun hwf=>?_
   try simp (maxSteps:=9^9) only[go_sem]
   repeat refine AI ?_
   refine cw c0 ?_
   try simp (maxSteps:=9^9) only[go_sem]
   repeat refine AI ?_
   refine cw c1 ?_
   try simp (maxSteps:=9^9) only[go_sem]
   repeat refine AI ?_
   refine cw c2 ?_
   try simp (maxSteps:=9^9) only[go_sem]
   try simp (maxSteps:=9^9) only[go_sem,d1]
   repeat refine AI ?_
   repeat refine AI ?_
   refine cw v0 ?_
   try simp (maxSteps:=9^9) only[go_sem]
   repeat refine AI ?_
   repeat refine AI ?_
   refine cw v1 ?_
   try simp (maxSteps:=9^9) only[go_sem]
   repeat refine AI ?_
   refine cw s0 ?_
   try simp (maxSteps:=9^9) only[go_sem]
   repeat refine AI ?_
   refine LoopG.intro _ _ _ (fun i:Nat=>⟨[(0,.sl tVec l),(3,.ptr 0 0),(4,.ptr 1 0),(5,.ptr 2 0),(32,.sl tVec l),(33,.sc (.int .i64 l.length)),(34,.sc (.int .i64 i))],[(2,.box (cel tRat (oD (leS l p i)))),(1,.box (cel tRat (oD none))),(0,.box (cel tPoint p))]⟩) (fun i=>i<=l.length) (fun i=>l.length - i) 0 ?_ (Nat.zero_le _) ?_
   ·refine Wk.mk [(2,12)] ?_
    try simp (maxSteps:=9^9) only[go_sem]
    try (and_intros<;>first|rfl|omega|exact ⟨_,rfl⟩)
   ·rintro i hi
    try simp (maxSteps:=9^9) only[go_sem]
    refine CondW_dec (fun hA=>?_) (fun hA=>?_)
    ·have hlt:i < l.length:=by omega
     have hr:=nxt_rng (n:=l.length) (i:=i) (by omega)
     have hr2:(nxt l.length i).toNat < l.length:=by omega
     have c3:=PointOfS_fn (nth (t:=tVec) l i)
     have c4:=PointOfS_fn (nth (t:=tVec) l (nxt l.length i).toNat)
     have s1:=SquareToSegmentS_fn p (ptV (nth (t:=tVec) l i)) (ptV (nth (t:=tVec) l (nxt l.length i).toNat)) (ptok _ (by omega)) (ptok _ (by omega))
     have e1:segD p (ptV (nth (t:=tVec) l i)) (ptV (nth (t:=tVec) l (nxt l.length i).toNat))=edO l p i:=rfl
     rw [e1] at s1
     have s2:=specRatMin_fn (oD (leS l p i)) (oD (edO l p i))
     rw [rdO_oD (okO_leS _ _ _),rdO_oD (okO_edO _ _ _)] at s2
     have hst:leS l p (i+1)=minO (leS l p i) (edO l p i):=rfl
     unfold nxt at hr hr2 c4 s1
     try simp (maxSteps:=9^9) only[go_sem]
     repeat refine AI ?_
     repeat refine AI ?_
     refine cw c3 ?_
     try simp (maxSteps:=9^9) only[go_sem]
     repeat refine AI ?_
     refine RemW.pos (by omega) (by omega) ?_
     try simp (maxSteps:=9^9) only[go_sem]
     repeat refine AI ?_
     repeat refine AI ?_
     refine cw c4 ?_
     try simp (maxSteps:=9^9) only[go_sem]
     repeat refine AI ?_
     refine cw s1 ?_
     try simp (maxSteps:=9^9) only[go_sem]
     repeat refine AI ?_
     refine cw s2 ?_
     try simp (maxSteps:=9^9) only[go_sem]
     repeat refine AI ?_
     refine LoopK.mk (i+1) ?_ (by omega) (by omega)
     rw [hst]
     exact WK
    ·rw [show l.length=i by omega]
     try simp (maxSteps:=9^9) only[go_sem]
     all_goals repeat refine AI ?_
     all_goals first|kernel_rfl|omega|rfl
noncomputable def discB (l:List DV) (p:DP) (n:Int):Bool:=(stpD l p).isSome && decide (cmpO (stpD l p) (some ((n:Int):Rat))<=0)
theorem DiscTouchesI_fn (l:List DV) (p:DP) (n:Int) (hl:polyP l) (hn:0<=n/\n<=1000000):Fn Tryz.prog 139 [⟨.slice tVec,l⟩,⟨tPoint,p⟩,⟨.int,n⟩] false [⟨.bool,discB l p n⟩]:=by
 have c0:=implIsPolygon_fn l
 rw [polyB_t hl] at c0
 have c1:=arePoints1_fn p
 have d1:=decide_eq_false (p:=n < 0) (by omega)
 unfold discB stpD
 cases h:okPt p<;>rw [h] at c1
 ·rw [if_neg (by decide)]
  refine fe Tryz.func139 Tryz.ntmps139 Tryz.results139 fun hwf=>?_
  try simp (maxSteps:=9^9) only[go_sem]
  repeat refine AI ?_
  refine cw c0 ?_
  try simp (maxSteps:=9^9) only[go_sem]
  repeat refine AI ?_
  refine cw c1 ?_
  try simp (maxSteps:=9^9) only[go_sem]
  all_goals repeat refine AI ?_
  all_goals first|kernel_rfl|omega|rfl
 ·rw [if_pos rfl]
  have c2:=toPolygon_fn l p hl h
  have c3:=isGood_fn (tpD l p)
  have c4:=ratInt_fn n
  rw [show ratI n=oD (some ((n:Int):Rat)) from ratI_eq n] at c4
  have c5:=ratCmp_fn (tpD l p) (some ((n:Int):Rat)) (okO_tpD _ _) (ok_small (by omega))
  cases hs:(tpD l p).isSome<;>rw [hs] at c3
  ·refine fe Tryz.func139 Tryz.ntmps139 Tryz.results139 fun hwf=>?_
   try simp (maxSteps:=9^9) only[go_sem]
   repeat refine AI ?_
   refine cw c0 ?_
   try simp (maxSteps:=9^9) only[go_sem]
   repeat refine AI ?_
   refine cw c1 ?_
   try simp (maxSteps:=9^9) only[go_sem]
   try simp (maxSteps:=9^9) only[go_sem,d1]
   repeat refine AI ?_
   refine cw c2 ?_
   try simp (maxSteps:=9^9) only[go_sem]
   repeat refine AI ?_
   repeat refine AI ?_
   refine cw c3 ?_
   try simp (maxSteps:=9^9) only[go_sem]
   all_goals repeat refine AI ?_
   all_goals first|kernel_rfl|omega|rfl
  ·refine fe Tryz.func139 Tryz.ntmps139 Tryz.results139 fun hwf=>?_
   try simp (maxSteps:=9^9) only[go_sem]
   repeat refine AI ?_
   refine cw c0 ?_
   try simp (maxSteps:=9^9) only[go_sem]
   repeat refine AI ?_
   refine cw c1 ?_
   try simp (maxSteps:=9^9) only[go_sem]
   try simp (maxSteps:=9^9) only[go_sem,d1]
   repeat refine AI ?_
   refine cw c2 ?_
   try simp (maxSteps:=9^9) only[go_sem]
   repeat refine AI ?_
   repeat refine AI ?_
   refine cw c3 ?_
   try simp (maxSteps:=9^9) only[go_sem]
   repeat refine AI ?_
   refine cw c4 ?_
   try simp (maxSteps:=9^9) only[go_sem]
   repeat refine AI ?_
   refine cw c5 ?_
   try simp (maxSteps:=9^9) only[go_sem]
   all_goals repeat refine AI ?_
   all_goals first|kernel_rfl|omega|rfl
theorem DiscTouchesS_fn (l:List DV) (p:DP) (n:Int) (hl:polyP l) (hn:0<=n/\n<=1000000):Fn Tryz.prog 167 [⟨.slice tVec,l⟩,⟨tPoint,p⟩,⟨.int,n⟩] false [⟨.bool,discB l p n⟩]:=by
 have d1:=decide_eq_true (p:=n ≥ 0) hn.1
 have c2:=SquareToPolygonS_fn l p hl
 have c3:=specRatOk_fn (oD (stpD l p))
 have e3:okR (oD (stpD l p))=(stpD l p).isSome:=by unfold okR; rw [rdO_oD (okO_stpD _ _)]
 rw [e3] at c3
 have c4:=RatFromInt_fn n
 rw [show ratI n=oD (some ((n:Int):Rat)) from ratI_eq n] at c4
 have c5:=specRatCmp_fn (oD (stpD l p)) (oD (some ((n:Int):Rat)))
 rw [rdO_oD (okO_stpD _ _),rdO_oD (ok_small (by omega))] at c5
 unfold discB
 cases hs:(stpD l p).isSome<;>rw [hs] at c3
 ·refine fe Tryz.func167 Tryz.ntmps167 Tryz.results167 fun hwf=>?_
  try simp (maxSteps:=9^9) only[go_sem]
  repeat refine AI ?_
  refine cw c2 ?_
  try simp (maxSteps:=9^9) only[go_sem]
  repeat refine AI ?_
  refine cw c3 ?_
  try simp (maxSteps:=9^9) only[go_sem]
  all_goals repeat refine AI ?_
  all_goals first|kernel_rfl|omega|rfl
 ·refine fe Tryz.func167 Tryz.ntmps167 Tryz.results167 fun hwf=>?_
  try simp (maxSteps:=9^9) only[go_sem]
  repeat refine AI ?_
  refine cw c2 ?_
  try simp (maxSteps:=9^9) only[go_sem]
  repeat refine AI ?_
  refine cw c3 ?_
  try simp (maxSteps:=9^9) only[go_sem]
  try simp (maxSteps:=9^9) only[go_sem,d1]
  repeat refine AI ?_
  refine cw c4 ?_
  try simp (maxSteps:=9^9) only[go_sem]
  repeat refine AI ?_
  refine cw c5 ?_
  try simp (maxSteps:=9^9) only[go_sem]
  all_goals repeat refine AI ?_
  all_goals first|kernel_rfl|omega|rfl
def rchI (l:List DV):Nat->Int
 | 0=>0
 | i+1=>max (rchI l i) ((nth (t:=tVec) l i).1 * (nth (t:=tVec) l i).1+(nth (t:=tVec) l i).2 * (nth (t:=tVec) l i).2)
theorem sqI_le {k x:Int} (h1:-k<=x) (h2:x<=k):x * x<=k * k:=by
 rcases Int.le_total 0 x with h|h
 ·exact Int.mul_le_mul h2 h2 h (by omega)
 ·have:=Int.mul_le_mul (show -x<=k by omega) (show -x<=k by omega) (by omega) (by omega)
  rwa [Int.neg_mul_neg] at this
theorem l07Max_fn (a b:Int):Fn Tryz.prog 209 [⟨.int,a⟩,⟨.int,b⟩] false [⟨.int,max a b⟩]:=by
 by_cases h:a > b
 ·have d:=decide_eq_true h
  rw [Int.max_eq_left (by omega)]
  refine fe Tryz.func209 Tryz.ntmps209 Tryz.results209 fun hwf=>?_
  try simp (maxSteps:=9^9) only[go_sem,d]
 ·have d:=decide_eq_false h
  rw [Int.max_eq_right (by omega)]
  refine fe Tryz.func209 Tryz.ntmps209 Tryz.results209 fun hwf=>?_
  try simp (maxSteps:=9^9) only[go_sem,d]
theorem ReachSquareI_fn (l:List DV) (hl:polyP l):Fn Tryz.prog 140 [⟨.slice tVec,l⟩] false [⟨.int,rchI l l.length⟩]:=by
 have c0:=implIsPolygon_fn l
 rw [polyB_t hl] at c0
 have hn:=hl.1.2
 refine fe Tryz.func140 Tryz.ntmps140 Tryz.results140 fun hwf=>?_
 try simp (maxSteps:=9^9) only[go_sem]
 repeat refine AI ?_
 refine cw c0 ?_
 try simp (maxSteps:=9^9) only[go_sem]
 refine LoopG.intro _ _ _ (fun i:Nat=>⟨[(3,.sc (.int .i64 (rchI l i))),(9,.sl tVec l),(10,.sc (.int .i64 l.length)),(11,.sc (.int .i64 i))],[]⟩) (fun i=>i<=l.length) (fun i=>l.length - i) 0 ?_ (Nat.zero_le _) ?_
 ·exact WK
 ·rintro i hi
  try simp (maxSteps:=9^9) only[go_sem]
  refine CondW_dec (fun hA=>?_) (fun hA=>?_)
  ·have hlt:i < l.length:=by omega
   obtain ⟨b1,b2,b3,b4⟩:=okV_b (hl.2.1 _ (nth_mem hlt))
   have s1:=sqI_le b1 b2
   have s2:=sqI_le b3 b4
   have n1:=sq_nn (nth (t:=tVec) l i).1
   have n2:=sq_nn (nth (t:=tVec) l i).2
   have hst:rchI l (i+1)=max (rchI l i) ((nth (t:=tVec) l i).1 * (nth (t:=tVec) l i).1+(nth (t:=tVec) l i).2 * (nth (t:=tVec) l i).2):=rfl
   try simp (maxSteps:=9^9) only[go_sem]
   repeat refine AI ?_
   refine LoopK.mk (i+1) ?_ (by omega) (by omega)
   rw [hst]
   exact WK
  ·rw [show l.length=i by omega]
   try simp (maxSteps:=9^9) only[go_sem]
   all_goals repeat refine AI ?_
   all_goals first|kernel_rfl|omega|rfl
theorem ReachSquareS_fn (l:List DV) (hl:polyP l):Fn Tryz.prog 168 [⟨.slice tVec,l⟩] false [⟨.int,rchI l l.length⟩]:=by
 have c0:=specIsPolygon_fn l
 rw [polyB_t hl] at c0
 have hn:=hl.1.2
 refine fe Tryz.func168 Tryz.ntmps168 Tryz.results168 fun hwf=>?_
 try simp (maxSteps:=9^9) only[go_sem]
 repeat refine AI ?_
 refine cw c0 ?_
 try simp (maxSteps:=9^9) only[go_sem]
 refine LoopG.intro _ _ _ (fun i:Nat=>⟨[(3,.sc (.int .i64 (rchI l i))),(9,.sl tVec l),(10,.sc (.int .i64 l.length)),(11,.sc (.int .i64 i))],[]⟩) (fun i=>i<=l.length) (fun i=>l.length - i) 0 ?_ (Nat.zero_le _) ?_
 ·exact WK
 ·rintro i hi
  try simp (maxSteps:=9^9) only[go_sem]
  refine CondW_dec (fun hA=>?_) (fun hA=>?_)
  ·have hlt:i < l.length:=by omega
   obtain ⟨b1,b2,b3,b4⟩:=okV_b (hl.2.1 _ (nth_mem hlt))
   have s1:=sqI_le b1 b2
   have s2:=sqI_le b3 b4
   have n1:=sq_nn (nth (t:=tVec) l i).1
   have n2:=sq_nn (nth (t:=tVec) l i).2
   have hst:rchI l (i+1)=max (rchI l i) ((nth (t:=tVec) l i).1 * (nth (t:=tVec) l i).1+(nth (t:=tVec) l i).2 * (nth (t:=tVec) l i).2):=rfl
   have c1:=l07Max_fn (rchI l i) ((nth (t:=tVec) l i).1 * (nth (t:=tVec) l i).1+(nth (t:=tVec) l i).2 * (nth (t:=tVec) l i).2)
   try simp (maxSteps:=9^9) only[go_sem]
   repeat refine AI ?_
   repeat refine AI ?_
   refine cw c1 ?_
   try simp (maxSteps:=9^9) only[go_sem]
   repeat refine AI ?_
   refine LoopK.mk (i+1) ?_ (by omega) (by omega)
   rw [hst]
   exact WK
  ·rw [show l.length=i by omega]
   try simp (maxSteps:=9^9) only[go_sem]
   all_goals repeat refine AI ?_
   all_goals first|kernel_rfl|omega|rfl
noncomputable def btw (x a b:Option Rat):Bool:=decide (cmpO x (minO a b) ≥ 0) && decide (cmpO x (maxO a b)<=0)
noncomputable def spanB (p a b:DP):Bool:=btw (rdO p.1) (rdO a.1) (rdO b.1) && btw (rdO p.2) (rdO a.2) (rdO b.2)
noncomputable def meetB (a b c d:DP):Bool:=(decide (sdP a b c=0) && spanB c a b) || (decide (sdP a b d=0) && spanB d a b) || (decide (sdP c d a=0) && spanB a c d) || (decide (sdP c d b=0) && spanB b c d) || (decide (sdP a b c * sdP a b d < 0) && decide (sdP c d a * sdP c d b < 0))
theorem meetB_swap (a b c d:DP):meetB c d a b=meetB a b c d:=by
 unfold meetB
 generalize (decide (sdP a b c=0) && spanB c a b)=x1
 generalize (decide (sdP a b d=0) && spanB d a b)=x2
 generalize (decide (sdP c d a=0) && spanB a c d)=x3
 generalize (decide (sdP c d b=0) && spanB b c d)=x4
 generalize decide (sdP a b c * sdP a b d < 0)=x5
 generalize decide (sdP c d a * sdP c d b < 0)=x6
 revert x1 x2 x3 x4 x5 x6
 decide
theorem isBetween_fn (x a b:Option Rat) (hx:okO x) (ha:okO a) (hb:okO b):Fn Tryz.prog 270 [⟨tRat,oD x⟩,⟨tRat,oD a⟩,⟨tRat,oD b⟩] false [⟨.bool,btw x a b⟩]:=by
 have c1:=ratMin_fn a b ha hb
 have c2:=ratCmp_fn x (minO a b) hx (okO_min ha hb)
 have c3:=ratMax_fn a b ha hb
 have c4:=ratCmp_fn x (maxO a b) hx (okO_max ha hb)
 unfold btw
 by_cases h:cmpO x (minO a b) ≥ 0
 ·have d1:=decide_eq_true h
  rw [d1]
  refine fe Tryz.func270 Tryz.ntmps270 Tryz.results270 fun hwf=>?_
  try simp (maxSteps:=9^9) only[go_sem]
  repeat refine AI ?_
  refine cw c1 ?_
  try simp (maxSteps:=9^9) only[go_sem]
  repeat refine AI ?_
  refine cw c2 ?_
  try simp (maxSteps:=9^9) only[go_sem]
  try simp (maxSteps:=9^9) only[go_sem,d1]
  repeat refine AI ?_
  refine cw c3 ?_
  try simp (maxSteps:=9^9) only[go_sem]
  repeat refine AI ?_
  refine cw c4 ?_
  try simp (maxSteps:=9^9) only[go_sem]
  all_goals repeat refine AI ?_
  all_goals first|kernel_rfl|omega|rfl
 ·have d1:=decide_eq_false h
  rw [d1]
  refine fe Tryz.func270 Tryz.ntmps270 Tryz.results270 fun hwf=>?_
  try simp (maxSteps:=9^9) only[go_sem]
  repeat refine AI ?_
  refine cw c1 ?_
  try simp (maxSteps:=9^9) only[go_sem]
  repeat refine AI ?_
  refine cw c2 ?_
  try simp (maxSteps:=9^9) only[go_sem]
  try simp (maxSteps:=9^9) only[go_sem,d1]
  all_goals repeat refine AI ?_
  all_goals first|kernel_rfl|omega|rfl
theorem isInSpan_fn (p a b:DP) (hp:okPt p=true) (ha:okPt a=true) (hb:okPt b=true):Fn Tryz.prog 247 [⟨tPoint,p⟩,⟨tPoint,a⟩,⟨tPoint,b⟩] false [⟨.bool,spanB p a b⟩]:=by
 have c1:=isBetween_fn (rdO p.1) (rdO a.1) (rdO b.1) (okO_rdO _) (okO_rdO _) (okO_rdO _)
 have c2:=isBetween_fn (rdO p.2) (rdO a.2) (rdO b.2) (okO_rdO _) (okO_rdO _) (okO_rdO _)
 rw [gP_1 (gP_ok hp),gP_1 (gP_ok ha),gP_1 (gP_ok hb)] at c1
 rw [gP_2 (gP_ok hp),gP_2 (gP_ok ha),gP_2 (gP_ok hb)] at c2
 unfold spanB
 cases h:btw (rdO p.1) (rdO a.1) (rdO b.1)<;>rw [h] at c1
 ·refine fe Tryz.func247 Tryz.ntmps247 Tryz.results247 fun hwf=>?_
  try simp (maxSteps:=9^9) only[go_sem]
  repeat refine AI ?_
  refine cw c1 ?_
  try simp (maxSteps:=9^9) only[go_sem]
  all_goals repeat refine AI ?_
  all_goals first|kernel_rfl|omega|rfl
 ·refine fe Tryz.func247 Tryz.ntmps247 Tryz.results247 fun hwf=>?_
  try simp (maxSteps:=9^9) only[go_sem]
  repeat refine AI ?_
  refine cw c1 ?_
  try simp (maxSteps:=9^9) only[go_sem]
  repeat refine AI ?_
  refine cw c2 ?_
  try simp (maxSteps:=9^9) only[go_sem]
  all_goals repeat refine AI ?_
  all_goals first|kernel_rfl|omega|rfl
theorem l08Between_fn (p a b:DP):Fn Tryz.prog 242 [⟨tPoint,p⟩,⟨tPoint,a⟩,⟨tPoint,b⟩] false [⟨.bool,spanB p a b⟩]:=by
 have c1:=specRatMin_fn a.1 b.1
 have c2:=specRatCmp_fn p.1 (oD (minO (rdO a.1) (rdO b.1)))
 have c3:=specRatMax_fn a.1 b.1
 have c4:=specRatCmp_fn p.1 (oD (maxO (rdO a.1) (rdO b.1)))
 have c5:=specRatMin_fn a.2 b.2
 have c6:=specRatCmp_fn p.2 (oD (minO (rdO a.2) (rdO b.2)))
 have c7:=specRatMax_fn a.2 b.2
 have c8:=specRatCmp_fn p.2 (oD (maxO (rdO a.2) (rdO b.2)))
 rw [rdO_oD (okO_min (okO_rdO _) (okO_rdO _))] at c2 c6
 rw [rdO_oD (okO_max (okO_rdO _) (okO_rdO _))] at c4 c8
 unfold spanB btw
 by_cases h1:cmpO (rdO p.1) (minO (rdO a.1) (rdO b.1)) ≥ 0
 ·have d1:=decide_eq_true h1
  rw [d1]
  by_cases h2:cmpO (rdO p.1) (maxO (rdO a.1) (rdO b.1))<=0
  ·have d2:=decide_eq_true h2
   rw [d2]
   by_cases h3:cmpO (rdO p.2) (minO (rdO a.2) (rdO b.2)) ≥ 0
   ·have d3:=decide_eq_true h3
    rw [d3]
    refine fe Tryz.func242 Tryz.ntmps242 Tryz.results242 fun hwf=>?_
    try simp (maxSteps:=9^9) only[go_sem]
    repeat refine AI ?_
    refine cw c1 ?_
    try simp (maxSteps:=9^9) only[go_sem]
    repeat refine AI ?_
    refine cw c2 ?_
    try simp (maxSteps:=9^9) only[go_sem]
    try simp (maxSteps:=9^9) only[go_sem,d1]
    repeat refine AI ?_
    refine cw c3 ?_
    try simp (maxSteps:=9^9) only[go_sem]
    repeat refine AI ?_
    refine cw c4 ?_
    try simp (maxSteps:=9^9) only[go_sem]
    try simp (maxSteps:=9^9) only[go_sem,d2]
    repeat refine AI ?_
    repeat refine AI ?_
    refine cw c5 ?_
    try simp (maxSteps:=9^9) only[go_sem]
    repeat refine AI ?_
    refine cw c6 ?_
    try simp (maxSteps:=9^9) only[go_sem]
    try simp (maxSteps:=9^9) only[go_sem,d3]
    repeat refine AI ?_
    refine cw c7 ?_
    try simp (maxSteps:=9^9) only[go_sem]
    repeat refine AI ?_
    refine cw c8 ?_
    try simp (maxSteps:=9^9) only[go_sem]
    all_goals repeat refine AI ?_
    all_goals first|kernel_rfl|omega|rfl
   ·have d3:=decide_eq_false h3
    rw [d3]
    refine fe Tryz.func242 Tryz.ntmps242 Tryz.results242 fun hwf=>?_
    try simp (maxSteps:=9^9) only[go_sem]
    repeat refine AI ?_
    refine cw c1 ?_
    try simp (maxSteps:=9^9) only[go_sem]
    repeat refine AI ?_
    refine cw c2 ?_
    try simp (maxSteps:=9^9) only[go_sem]
    try simp (maxSteps:=9^9) only[go_sem,d1]
    repeat refine AI ?_
    refine cw c3 ?_
    try simp (maxSteps:=9^9) only[go_sem]
    repeat refine AI ?_
    refine cw c4 ?_
    try simp (maxSteps:=9^9) only[go_sem]
    try simp (maxSteps:=9^9) only[go_sem,d2]
    repeat refine AI ?_
    repeat refine AI ?_
    refine cw c5 ?_
    try simp (maxSteps:=9^9) only[go_sem]
    repeat refine AI ?_
    refine cw c6 ?_
    try simp (maxSteps:=9^9) only[go_sem]
    try simp (maxSteps:=9^9) only[go_sem,d3]
    all_goals repeat refine AI ?_
    all_goals first|kernel_rfl|omega|rfl
  ·have d2:=decide_eq_false h2
   rw [d2]
   refine fe Tryz.func242 Tryz.ntmps242 Tryz.results242 fun hwf=>?_
   try simp (maxSteps:=9^9) only[go_sem]
   repeat refine AI ?_
   refine cw c1 ?_
   try simp (maxSteps:=9^9) only[go_sem]
   repeat refine AI ?_
   refine cw c2 ?_
   try simp (maxSteps:=9^9) only[go_sem]
   try simp (maxSteps:=9^9) only[go_sem,d1]
   repeat refine AI ?_
   refine cw c3 ?_
   try simp (maxSteps:=9^9) only[go_sem]
   repeat refine AI ?_
   refine cw c4 ?_
   try simp (maxSteps:=9^9) only[go_sem]
   try simp (maxSteps:=9^9) only[go_sem,d2]
   all_goals repeat refine AI ?_
   all_goals first|kernel_rfl|omega|rfl
 ·have d1:=decide_eq_false h1
  rw [d1]
  refine fe Tryz.func242 Tryz.ntmps242 Tryz.results242 fun hwf=>?_
  try simp (maxSteps:=9^9) only[go_sem]
  repeat refine AI ?_
  refine cw c1 ?_
  try simp (maxSteps:=9^9) only[go_sem]
  repeat refine AI ?_
  refine cw c2 ?_
  try simp (maxSteps:=9^9) only[go_sem]
  try simp (maxSteps:=9^9) only[go_sem,d1]
  all_goals repeat refine AI ?_
  all_goals first|kernel_rfl|omega|rfl
theorem sdP_b (p q r:DP):-1<=sdP p q r/\sdP p q r<=1:=by
 unfold sdP sgnO
 split
 ·unfold cmpQ
  split
  ·omega
  ·split<;>omega
 ·omega
theorem mul3 {x y:Int} (hx:-1<=x/\x<=1) (hy:-1<=y/\y<=1):-1<=x * y/\x * y<=1:=by
 have h1:x=-1\/x=0\/x=1:=by omega
 rcases h1 with rfl|rfl|rfl<;>omega
set_option maxHeartbeats 4000000 in
theorem meet_fn (a b c d:DP) (ha:okPt a=true) (hb:okPt b=true) (hc:okPt c=true) (hd:okPt d=true):Fn Tryz.prog 218 [⟨tPoint,a⟩,⟨tPoint,b⟩,⟨tPoint,c⟩,⟨tPoint,d⟩] false [⟨.bool,meetB a b c d⟩]:=by
 have c0:=side_fn a b c ha hb hc
 have c1:=side_fn a b d ha hb hd
 have c2:=side_fn c d a hc hd ha
 have c3:=side_fn c d b hc hd hb
 have s0:=isInSpan_fn c a b hc ha hb
 have s1:=isInSpan_fn d a b hd ha hb
 have s2:=isInSpan_fn a c d ha hc hd
 have s3:=isInSpan_fn b c d hb hc hd
 have b0:=sdP_b a b c
 have b1:=sdP_b a b d
 have b2:=sdP_b c d a
 have b3:=sdP_b c d b
 unfold meetB
 generalize sdP a b c=z0 at *
 generalize sdP a b d=z1 at *
 generalize sdP c d a=z2 at *
 generalize sdP c d b=z3 at *
 generalize spanB c a b=g0 at *
 generalize spanB d a b=g1 at *
 generalize spanB a c d=g2 at *
 generalize spanB b c d=g3 at *
 have m0:=mul3 b0 b1
 have m1:=mul3 b2 b3
 refine fe Tryz.func218 Tryz.ntmps218 Tryz.results218 fun hwf=>?_
 try simp (maxSteps:=9^9) only[go_sem]
 repeat refine AI ?_
 refine cw c0 ?_
 try simp (maxSteps:=9^9) only[go_sem]
 repeat refine AI ?_
 refine cw c1 ?_
 try simp (maxSteps:=9^9) only[go_sem]
 repeat refine AI ?_
 repeat refine AI ?_
 refine cw c2 ?_
 try simp (maxSteps:=9^9) only[go_sem]
 repeat refine AI ?_
 refine cw c3 ?_
 try simp (maxSteps:=9^9) only[go_sem]
 repeat refine AI ?_
 by_cases h0:z0=0
 ·have d0:=decide_eq_true h0
  cases t0:g0<;>rw [t0] at s0
  ·try simp (maxSteps:=9^9) only[go_sem,d0]
   repeat refine AI ?_
   refine cw s0 ?_
   try simp (maxSteps:=9^9) only[go_sem]
   by_cases h1:z1=0
   ·have d1:=decide_eq_true h1
    cases t1:g1<;>rw [t1] at s1
    ·try simp (maxSteps:=9^9) only[go_sem,d1]
     repeat refine AI ?_
     refine cw s1 ?_
     try simp (maxSteps:=9^9) only[go_sem]
     by_cases h2:z2=0
     ·have d2:=decide_eq_true h2
      cases t2:g2<;>rw [t2] at s2
      ·try simp (maxSteps:=9^9) only[go_sem,d2]
       repeat refine AI ?_
       refine cw s2 ?_
       try simp (maxSteps:=9^9) only[go_sem]
       by_cases h3:z3=0
       ·have d3:=decide_eq_true h3
        cases t3:g3<;>rw [t3] at s3
        ·try simp (maxSteps:=9^9) only[go_sem,d3]
         repeat refine AI ?_
         refine cw s3 ?_
         try simp (maxSteps:=9^9) only[go_sem]
         by_cases q0:z0 * z1 < 0
         ·have e0:=decide_eq_true q0
          try simp (maxSteps:=9^9) only[go_sem,e0]
          repeat refine AI ?_
          all_goals first|omega|(simp [h0,h1,h2,h3,q0]; done)
         ·have e0:=decide_eq_false q0
          try simp (maxSteps:=9^9) only[go_sem,e0]
          repeat refine AI ?_
          all_goals first|omega|(simp [h0,h1,h2,h3,q0]; done)
        ·try simp (maxSteps:=9^9) only[go_sem,d3]
         repeat refine AI ?_
         refine cw s3 ?_
         try simp (maxSteps:=9^9) only[go_sem]
         all_goals first|omega|(simp [h0,h1,h2,h3]; done)
       ·have d3:=decide_eq_false h3
        try simp (maxSteps:=9^9) only[go_sem,d3]
        by_cases q0:z0 * z1 < 0
        ·have e0:=decide_eq_true q0
         try simp (maxSteps:=9^9) only[go_sem,e0]
         repeat refine AI ?_
         all_goals first|omega|(simp [h0,h1,h2,h3,q0]; done)
        ·have e0:=decide_eq_false q0
         try simp (maxSteps:=9^9) only[go_sem,e0]
         repeat refine AI ?_
         all_goals first|omega|(simp [h0,h1,h2,h3,q0]; done)
      ·try simp (maxSteps:=9^9) only[go_sem,d2]
       repeat refine AI ?_
       refine cw s2 ?_
       try simp (maxSteps:=9^9) only[go_sem]
       all_goals first|omega|(simp [h0,h1,h2]; done)
     ·have d2:=decide_eq_false h2
      try simp (maxSteps:=9^9) only[go_sem,d2]
      by_cases h3:z3=0
      ·have d3:=decide_eq_true h3
       cases t3:g3<;>rw [t3] at s3
       ·try simp (maxSteps:=9^9) only[go_sem,d3]
        repeat refine AI ?_
        refine cw s3 ?_
        try simp (maxSteps:=9^9) only[go_sem]
        by_cases q0:z0 * z1 < 0
        ·have e0:=decide_eq_true q0
         try simp (maxSteps:=9^9) only[go_sem,e0]
         repeat refine AI ?_
         all_goals first|omega|(simp [h0,h1,h2,h3,q0]; done)
        ·have e0:=decide_eq_false q0
         try simp (maxSteps:=9^9) only[go_sem,e0]
         repeat refine AI ?_
         all_goals first|omega|(simp [h0,h1,h2,h3,q0]; done)
       ·try simp (maxSteps:=9^9) only[go_sem,d3]
        repeat refine AI ?_
        refine cw s3 ?_
        try simp (maxSteps:=9^9) only[go_sem]
        all_goals first|omega|(simp [h0,h1,h2,h3]; done)
      ·have d3:=decide_eq_false h3
       try simp (maxSteps:=9^9) only[go_sem,d3]
       by_cases q0:z0 * z1 < 0
       ·have e0:=decide_eq_true q0
        try simp (maxSteps:=9^9) only[go_sem,e0]
        repeat refine AI ?_
        all_goals first|omega|(simp [h0,h1,h2,h3,q0]; done)
       ·have e0:=decide_eq_false q0
        try simp (maxSteps:=9^9) only[go_sem,e0]
        repeat refine AI ?_
        all_goals first|omega|(simp [h0,h1,h2,h3,q0]; done)
    ·try simp (maxSteps:=9^9) only[go_sem,d1]
     repeat refine AI ?_
     refine cw s1 ?_
     try simp (maxSteps:=9^9) only[go_sem]
     all_goals first|omega|(simp [h0,h1]; done)
   ·have d1:=decide_eq_false h1
    try simp (maxSteps:=9^9) only[go_sem,d1]
    by_cases h2:z2=0
    ·have d2:=decide_eq_true h2
     cases t2:g2<;>rw [t2] at s2
     ·try simp (maxSteps:=9^9) only[go_sem,d2]
      repeat refine AI ?_
      refine cw s2 ?_
      try simp (maxSteps:=9^9) only[go_sem]
      by_cases h3:z3=0
      ·have d3:=decide_eq_true h3
       cases t3:g3<;>rw [t3] at s3
       ·try simp (maxSteps:=9^9) only[go_sem,d3]
        repeat refine AI ?_
        refine cw s3 ?_
        try simp (maxSteps:=9^9) only[go_sem]
        by_cases q0:z0 * z1 < 0
        ·have e0:=decide_eq_true q0
         try simp (maxSteps:=9^9) only[go_sem,e0]
         repeat refine AI ?_
         all_goals first|omega|(simp [h0,h1,h2,h3,q0]; done)
        ·have e0:=decide_eq_false q0
         try simp (maxSteps:=9^9) only[go_sem,e0]
         repeat refine AI ?_
         all_goals first|omega|(simp [h0,h1,h2,h3,q0]; done)
       ·try simp (maxSteps:=9^9) only[go_sem,d3]
        repeat refine AI ?_
        refine cw s3 ?_
        try simp (maxSteps:=9^9) only[go_sem]
        all_goals first|omega|(simp [h0,h1,h2,h3]; done)
      ·have d3:=decide_eq_false h3
       try simp (maxSteps:=9^9) only[go_sem,d3]
       by_cases q0:z0 * z1 < 0
       ·have e0:=decide_eq_true q0
        try simp (maxSteps:=9^9) only[go_sem,e0]
        repeat refine AI ?_
        all_goals first|omega|(simp [h0,h1,h2,h3,q0]; done)
       ·have e0:=decide_eq_false q0
        try simp (maxSteps:=9^9) only[go_sem,e0]
        repeat refine AI ?_
        all_goals first|omega|(simp [h0,h1,h2,h3,q0]; done)
     ·try simp (maxSteps:=9^9) only[go_sem,d2]
      repeat refine AI ?_
      refine cw s2 ?_
      try simp (maxSteps:=9^9) only[go_sem]
      all_goals first|omega|(simp [h0,h1,h2]; done)
    ·have d2:=decide_eq_false h2
     try simp (maxSteps:=9^9) only[go_sem,d2]
     by_cases h3:z3=0
     ·have d3:=decide_eq_true h3
      cases t3:g3<;>rw [t3] at s3
      ·try simp (maxSteps:=9^9) only[go_sem,d3]
       repeat refine AI ?_
       refine cw s3 ?_
       try simp (maxSteps:=9^9) only[go_sem]
       by_cases q0:z0 * z1 < 0
       ·have e0:=decide_eq_true q0
        try simp (maxSteps:=9^9) only[go_sem,e0]
        repeat refine AI ?_
        all_goals first|omega|(simp [h0,h1,h2,h3,q0]; done)
       ·have e0:=decide_eq_false q0
        try simp (maxSteps:=9^9) only[go_sem,e0]
        repeat refine AI ?_
        all_goals first|omega|(simp [h0,h1,h2,h3,q0]; done)
      ·try simp (maxSteps:=9^9) only[go_sem,d3]
       repeat refine AI ?_
       refine cw s3 ?_
       try simp (maxSteps:=9^9) only[go_sem]
       all_goals first|omega|(simp [h0,h1,h2,h3]; done)
     ·have d3:=decide_eq_false h3
      try simp (maxSteps:=9^9) only[go_sem,d3]
      by_cases q0:z0 * z1 < 0
      ·have e0:=decide_eq_true q0
       try simp (maxSteps:=9^9) only[go_sem,e0]
       repeat refine AI ?_
       all_goals first|omega|(simp [h0,h1,h2,h3,q0]; done)
      ·have e0:=decide_eq_false q0
       try simp (maxSteps:=9^9) only[go_sem,e0]
       repeat refine AI ?_
       all_goals first|omega|(simp [h0,h1,h2,h3,q0]; done)
  ·try simp (maxSteps:=9^9) only[go_sem,d0]
   repeat refine AI ?_
   refine cw s0 ?_
   try simp (maxSteps:=9^9) only[go_sem]
   all_goals first|omega|(simp [h0]; done)
 ·have d0:=decide_eq_false h0
  try simp (maxSteps:=9^9) only[go_sem,d0]
  by_cases h1:z1=0
  ·have d1:=decide_eq_true h1
   cases t1:g1<;>rw [t1] at s1
   ·try simp (maxSteps:=9^9) only[go_sem,d1]
    repeat refine AI ?_
    refine cw s1 ?_
    try simp (maxSteps:=9^9) only[go_sem]
    by_cases h2:z2=0
    ·have d2:=decide_eq_true h2
     cases t2:g2<;>rw [t2] at s2
     ·try simp (maxSteps:=9^9) only[go_sem,d2]
      repeat refine AI ?_
      refine cw s2 ?_
      try simp (maxSteps:=9^9) only[go_sem]
      by_cases h3:z3=0
      ·have d3:=decide_eq_true h3
       cases t3:g3<;>rw [t3] at s3
       ·try simp (maxSteps:=9^9) only[go_sem,d3]
        repeat refine AI ?_
        refine cw s3 ?_
        try simp (maxSteps:=9^9) only[go_sem]
        by_cases q0:z0 * z1 < 0
        ·have e0:=decide_eq_true q0
         try simp (maxSteps:=9^9) only[go_sem,e0]
         repeat refine AI ?_
         all_goals first|omega|(simp [h0,h1,h2,h3,q0]; done)
        ·have e0:=decide_eq_false q0
         try simp (maxSteps:=9^9) only[go_sem,e0]
         repeat refine AI ?_
         all_goals first|omega|(simp [h0,h1,h2,h3,q0]; done)
       ·try simp (maxSteps:=9^9) only[go_sem,d3]
        repeat refine AI ?_
        refine cw s3 ?_
        try simp (maxSteps:=9^9) only[go_sem]
        all_goals first|omega|(simp [h0,h1,h2,h3]; done)
      ·have d3:=decide_eq_false h3
       try simp (maxSteps:=9^9) only[go_sem,d3]
       by_cases q0:z0 * z1 < 0
       ·have e0:=decide_eq_true q0
        try simp (maxSteps:=9^9) only[go_sem,e0]
        repeat refine AI ?_
        all_goals first|omega|(simp [h0,h1,h2,h3,q0]; done)
       ·have e0:=decide_eq_false q0
        try simp (maxSteps:=9^9) only[go_sem,e0]
        repeat refine AI ?_
        all_goals first|omega|(simp [h0,h1,h2,h3,q0]; done)
     ·try simp (maxSteps:=9^9) only[go_sem,d2]
      repeat refine AI ?_
      refine cw s2 ?_
      try simp (maxSteps:=9^9) only[go_sem]
      all_goals first|omega|(simp [h0,h1,h2]; done)
    ·have d2:=decide_eq_false h2
     try simp (maxSteps:=9^9) only[go_sem,d2]
     by_cases h3:z3=0
     ·have d3:=decide_eq_true h3
      cases t3:g3<;>rw [t3] at s3
      ·try simp (maxSteps:=9^9) only[go_sem,d3]
       repeat refine AI ?_
       refine cw s3 ?_
       try simp (maxSteps:=9^9) only[go_sem]
       by_cases q0:z0 * z1 < 0
       ·have e0:=decide_eq_true q0
        try simp (maxSteps:=9^9) only[go_sem,e0]
        repeat refine AI ?_
        all_goals first|omega|(simp [h0,h1,h2,h3,q0]; done)
       ·have e0:=decide_eq_false q0
        try simp (maxSteps:=9^9) only[go_sem,e0]
        repeat refine AI ?_
        all_goals first|omega|(simp [h0,h1,h2,h3,q0]; done)
      ·try simp (maxSteps:=9^9) only[go_sem,d3]
       repeat refine AI ?_
       refine cw s3 ?_
       try simp (maxSteps:=9^9) only[go_sem]
       all_goals first|omega|(simp [h0,h1,h2,h3]; done)
     ·have d3:=decide_eq_false h3
      try simp (maxSteps:=9^9) only[go_sem,d3]
      by_cases q0:z0 * z1 < 0
      ·have e0:=decide_eq_true q0
       try simp (maxSteps:=9^9) only[go_sem,e0]
       repeat refine AI ?_
       all_goals first|omega|(simp [h0,h1,h2,h3,q0]; done)
      ·have e0:=decide_eq_false q0
       try simp (maxSteps:=9^9) only[go_sem,e0]
       repeat refine AI ?_
       all_goals first|omega|(simp [h0,h1,h2,h3,q0]; done)
   ·try simp (maxSteps:=9^9) only[go_sem,d1]
    repeat refine AI ?_
    refine cw s1 ?_
    try simp (maxSteps:=9^9) only[go_sem]
    all_goals first|omega|(simp [h0,h1]; done)
  ·have d1:=decide_eq_false h1
   try simp (maxSteps:=9^9) only[go_sem,d1]
   by_cases h2:z2=0
   ·have d2:=decide_eq_true h2
    cases t2:g2<;>rw [t2] at s2
    ·try simp (maxSteps:=9^9) only[go_sem,d2]
     repeat refine AI ?_
     refine cw s2 ?_
     try simp (maxSteps:=9^9) only[go_sem]
     by_cases h3:z3=0
     ·have d3:=decide_eq_true h3
      cases t3:g3<;>rw [t3] at s3
      ·try simp (maxSteps:=9^9) only[go_sem,d3]
       repeat refine AI ?_
       refine cw s3 ?_
       try simp (maxSteps:=9^9) only[go_sem]
       by_cases q0:z0 * z1 < 0
       ·have e0:=decide_eq_true q0
        try simp (maxSteps:=9^9) only[go_sem,e0]
        repeat refine AI ?_
        all_goals first|omega|(simp [h0,h1,h2,h3,q0]; done)
       ·have e0:=decide_eq_false q0
        try simp (maxSteps:=9^9) only[go_sem,e0]
        repeat refine AI ?_
        all_goals first|omega|(simp [h0,h1,h2,h3,q0]; done)
      ·try simp (maxSteps:=9^9) only[go_sem,d3]
       repeat refine AI ?_
       refine cw s3 ?_
       try simp (maxSteps:=9^9) only[go_sem]
       all_goals first|omega|(simp [h0,h1,h2,h3]; done)
     ·have d3:=decide_eq_false h3
      try simp (maxSteps:=9^9) only[go_sem,d3]
      by_cases q0:z0 * z1 < 0
      ·have e0:=decide_eq_true q0
       try simp (maxSteps:=9^9) only[go_sem,e0]
       repeat refine AI ?_
       all_goals first|omega|(simp [h0,h1,h2,h3,q0]; done)
      ·have e0:=decide_eq_false q0
       try simp (maxSteps:=9^9) only[go_sem,e0]
       repeat refine AI ?_
       all_goals first|omega|(simp [h0,h1,h2,h3,q0]; done)
    ·try simp (maxSteps:=9^9) only[go_sem,d2]
     repeat refine AI ?_
     refine cw s2 ?_
     try simp (maxSteps:=9^9) only[go_sem]
     all_goals first|omega|(simp [h0,h1,h2]; done)
   ·have d2:=decide_eq_false h2
    try simp (maxSteps:=9^9) only[go_sem,d2]
    by_cases h3:z3=0
    ·have d3:=decide_eq_true h3
     cases t3:g3<;>rw [t3] at s3
     ·try simp (maxSteps:=9^9) only[go_sem,d3]
      repeat refine AI ?_
      refine cw s3 ?_
      try simp (maxSteps:=9^9) only[go_sem]
      by_cases q0:z0 * z1 < 0
      ·have e0:=decide_eq_true q0
       try simp (maxSteps:=9^9) only[go_sem,e0]
       repeat refine AI ?_
       all_goals first|omega|(simp [h0,h1,h2,h3,q0]; done)
      ·have e0:=decide_eq_false q0
       try simp (maxSteps:=9^9) only[go_sem,e0]
       repeat refine AI ?_
       all_goals first|omega|(simp [h0,h1,h2,h3,q0]; done)
     ·try simp (maxSteps:=9^9) only[go_sem,d3]
      repeat refine AI ?_
      refine cw s3 ?_
      try simp (maxSteps:=9^9) only[go_sem]
      all_goals first|omega|(simp [h0,h1,h2,h3]; done)
    ·have d3:=decide_eq_false h3
     try simp (maxSteps:=9^9) only[go_sem,d3]
     by_cases q0:z0 * z1 < 0
     ·have e0:=decide_eq_true q0
      try simp (maxSteps:=9^9) only[go_sem,e0]
      repeat refine AI ?_
      all_goals first|omega|(simp [h0,h1,h2,h3,q0]; done)
     ·have e0:=decide_eq_false q0
      try simp (maxSteps:=9^9) only[go_sem,e0]
      repeat refine AI ?_
      all_goals first|omega|(simp [h0,h1,h2,h3,q0]; done)
set_option maxHeartbeats 4000000 in
theorem SegmentsMeetS_fn (a b c d:DP) (ha:okPt a=true) (hb:okPt b=true) (hc:okPt c=true) (hd:okPt d=true):Fn Tryz.prog 210 [⟨tPoint,a⟩,⟨tPoint,b⟩,⟨tPoint,c⟩,⟨tPoint,d⟩] false [⟨.bool,meetB a b c d⟩]:=by
 have va:=specIsValidPoint_fn a
 rw [ha] at va
 have vb:=specIsValidPoint_fn b
 rw [hb] at vb
 have vc:=specIsValidPoint_fn c
 rw [hc] at vc
 have vd:=specIsValidPoint_fn d
 rw [hd] at vd
 have c0:=specSide_fn a b c
 have c1:=specSide_fn a b d
 have c2:=specSide_fn c d a
 have c3:=specSide_fn c d b
 have s0:=l08Between_fn c a b
 have s1:=l08Between_fn d a b
 have s2:=l08Between_fn a c d
 have s3:=l08Between_fn b c d
 have b0:=sdP_b a b c
 have b1:=sdP_b a b d
 have b2:=sdP_b c d a
 have b3:=sdP_b c d b
 unfold meetB
 generalize sdP a b c=z0 at *
 generalize sdP a b d=z1 at *
 generalize sdP c d a=z2 at *
 generalize sdP c d b=z3 at *
 generalize spanB c a b=g0 at *
 generalize spanB d a b=g1 at *
 generalize spanB a c d=g2 at *
 generalize spanB b c d=g3 at *
 have m0:=mul3 b0 b1
 have m1:=mul3 b2 b3
 refine fe Tryz.func210 Tryz.ntmps210 Tryz.results210 fun hwf=>?_
 try simp (maxSteps:=9^9) only[go_sem]
 repeat refine AI ?_
 refine cw va ?_
 try simp (maxSteps:=9^9) only[go_sem]
 repeat refine AI ?_
 refine cw vb ?_
 try simp (maxSteps:=9^9) only[go_sem]
 repeat refine AI ?_
 refine cw vc ?_
 try simp (maxSteps:=9^9) only[go_sem]
 repeat refine AI ?_
 refine cw vd ?_
 try simp (maxSteps:=9^9) only[go_sem]
 repeat refine AI ?_
 refine cw c0 ?_
 try simp (maxSteps:=9^9) only[go_sem]
 repeat refine AI ?_
 refine cw c1 ?_
 try simp (maxSteps:=9^9) only[go_sem]
 repeat refine AI ?_
 refine cw c2 ?_
 try simp (maxSteps:=9^9) only[go_sem]
 repeat refine AI ?_
 refine cw c3 ?_
 try simp (maxSteps:=9^9) only[go_sem]
 repeat refine AI ?_
 by_cases q0:z0 * z1 < 0
 ·have e0:=decide_eq_true q0
  by_cases q1:z2 * z3 < 0
  ·have e1:=decide_eq_true q1
   try simp (maxSteps:=9^9) only[go_sem,e0,e1]
   repeat refine AI ?_
   try simp (maxSteps:=9^9) only[go_sem,e0,e1]
   all_goals first|omega|(simp [q0,q1]; done)
  ·have e1:=decide_eq_false q1
   try simp (maxSteps:=9^9) only[go_sem,e0,e1]
   repeat refine AI ?_
   try simp (maxSteps:=9^9) only[go_sem,e0,e1]
   by_cases h0:z0=0
   ·have d0:=decide_eq_true h0
    cases t0:g0<;>rw [t0] at s0
    ·try simp (maxSteps:=9^9) only[go_sem,e0,e1,d0]
     repeat refine AI ?_
     refine cw s0 ?_
     try simp (maxSteps:=9^9) only[go_sem]
     by_cases h1:z1=0
     ·have d1:=decide_eq_true h1
      cases t1:g1<;>rw [t1] at s1
      ·try simp (maxSteps:=9^9) only[go_sem,e0,e1,d0,d1]
       repeat refine AI ?_
       refine cw s1 ?_
       try simp (maxSteps:=9^9) only[go_sem]
       by_cases h2:z2=0
       ·have d2:=decide_eq_true h2
        cases t2:g2<;>rw [t2] at s2
        ·try simp (maxSteps:=9^9) only[go_sem,e0,e1,d0,d1,d2]
         repeat refine AI ?_
         refine cw s2 ?_
         try simp (maxSteps:=9^9) only[go_sem]
         by_cases h3:z3=0
         ·have d3:=decide_eq_true h3
          cases t3:g3<;>rw [t3] at s3
          ·try simp (maxSteps:=9^9) only[go_sem,e0,e1,d0,d1,d2,d3]
           repeat refine AI ?_
           refine cw s3 ?_
           try simp (maxSteps:=9^9) only[go_sem]
           all_goals first|omega|(simp [q0,q1,h0,h1,h2,h3]; done)
          ·try simp (maxSteps:=9^9) only[go_sem,e0,e1,d0,d1,d2,d3]
           repeat refine AI ?_
           refine cw s3 ?_
           try simp (maxSteps:=9^9) only[go_sem]
           all_goals first|omega|(simp [q0,q1,h0,h1,h2,h3]; done)
         ·have d3:=decide_eq_false h3
          try simp (maxSteps:=9^9) only[go_sem,e0,e1,d0,d1,d2,d3]
          all_goals first|omega|(simp [q0,q1,h0,h1,h2,h3]; done)
        ·try simp (maxSteps:=9^9) only[go_sem,e0,e1,d0,d1,d2]
         repeat refine AI ?_
         refine cw s2 ?_
         try simp (maxSteps:=9^9) only[go_sem]
         all_goals first|omega|(simp [q0,q1,h0,h1,h2]; done)
       ·have d2:=decide_eq_false h2
        try simp (maxSteps:=9^9) only[go_sem,e0,e1,d0,d1,d2]
        by_cases h3:z3=0
        ·have d3:=decide_eq_true h3
         cases t3:g3<;>rw [t3] at s3
         ·try simp (maxSteps:=9^9) only[go_sem,e0,e1,d0,d1,d2,d3]
          repeat refine AI ?_
          refine cw s3 ?_
          try simp (maxSteps:=9^9) only[go_sem]
          all_goals first|omega|(simp [q0,q1,h0,h1,h2,h3]; done)
         ·try simp (maxSteps:=9^9) only[go_sem,e0,e1,d0,d1,d2,d3]
          repeat refine AI ?_
          refine cw s3 ?_
          try simp (maxSteps:=9^9) only[go_sem]
          all_goals first|omega|(simp [q0,q1,h0,h1,h2,h3]; done)
        ·have d3:=decide_eq_false h3
         try simp (maxSteps:=9^9) only[go_sem,e0,e1,d0,d1,d2,d3]
         all_goals first|omega|(simp [q0,q1,h0,h1,h2,h3]; done)
      ·try simp (maxSteps:=9^9) only[go_sem,e0,e1,d0,d1]
       repeat refine AI ?_
       refine cw s1 ?_
       try simp (maxSteps:=9^9) only[go_sem]
       all_goals first|omega|(simp [q0,q1,h0,h1]; done)
     ·have d1:=decide_eq_false h1
      try simp (maxSteps:=9^9) only[go_sem,e0,e1,d0,d1]
      by_cases h2:z2=0
      ·have d2:=decide_eq_true h2
       cases t2:g2<;>rw [t2] at s2
       ·try simp (maxSteps:=9^9) only[go_sem,e0,e1,d0,d1,d2]
        repeat refine AI ?_
        refine cw s2 ?_
        try simp (maxSteps:=9^9) only[go_sem]
        by_cases h3:z3=0
        ·have d3:=decide_eq_true h3
         cases t3:g3<;>rw [t3] at s3
         ·try simp (maxSteps:=9^9) only[go_sem,e0,e1,d0,d1,d2,d3]
          repeat refine AI ?_
          refine cw s3 ?_
          try simp (maxSteps:=9^9) only[go_sem]
          all_goals first|omega|(simp [q0,q1,h0,h1,h2,h3]; done)
         ·try simp (maxSteps:=9^9) only[go_sem,e0,e1,d0,d1,d2,d3]
          repeat refine AI ?_
          refine cw s3 ?_
          try simp (maxSteps:=9^9) only[go_sem]
          all_goals first|omega|(simp [q0,q1,h0,h1,h2,h3]; done)
        ·have d3:=decide_eq_false h3
         try simp (maxSteps:=9^9) only[go_sem,e0,e1,d0,d1,d2,d3]
         all_goals first|omega|(simp [q0,q1,h0,h1,h2,h3]; done)
       ·try simp (maxSteps:=9^9) only[go_sem,e0,e1,d0,d1,d2]
        repeat refine AI ?_
        refine cw s2 ?_
        try simp (maxSteps:=9^9) only[go_sem]
        all_goals first|omega|(simp [q0,q1,h0,h1,h2]; done)
      ·have d2:=decide_eq_false h2
       try simp (maxSteps:=9^9) only[go_sem,e0,e1,d0,d1,d2]
       by_cases h3:z3=0
       ·have d3:=decide_eq_true h3
        cases t3:g3<;>rw [t3] at s3
        ·try simp (maxSteps:=9^9) only[go_sem,e0,e1,d0,d1,d2,d3]
         repeat refine AI ?_
         refine cw s3 ?_
         try simp (maxSteps:=9^9) only[go_sem]
         all_goals first|omega|(simp [q0,q1,h0,h1,h2,h3]; done)
        ·try simp (maxSteps:=9^9) only[go_sem,e0,e1,d0,d1,d2,d3]
         repeat refine AI ?_
         refine cw s3 ?_
         try simp (maxSteps:=9^9) only[go_sem]
         all_goals first|omega|(simp [q0,q1,h0,h1,h2,h3]; done)
       ·have d3:=decide_eq_false h3
        try simp (maxSteps:=9^9) only[go_sem,e0,e1,d0,d1,d2,d3]
        all_goals first|omega|(simp [q0,q1,h0,h1,h2,h3]; done)
    ·try simp (maxSteps:=9^9) only[go_sem,e0,e1,d0]
     repeat refine AI ?_
     refine cw s0 ?_
     try simp (maxSteps:=9^9) only[go_sem]
     all_goals first|omega|(simp [q0,q1,h0]; done)
   ·have d0:=decide_eq_false h0
    try simp (maxSteps:=9^9) only[go_sem,e0,e1,d0]
    by_cases h1:z1=0
    ·have d1:=decide_eq_true h1
     cases t1:g1<;>rw [t1] at s1
     ·try simp (maxSteps:=9^9) only[go_sem,e0,e1,d0,d1]
      repeat refine AI ?_
      refine cw s1 ?_
      try simp (maxSteps:=9^9) only[go_sem]
      by_cases h2:z2=0
      ·have d2:=decide_eq_true h2
       cases t2:g2<;>rw [t2] at s2
       ·try simp (maxSteps:=9^9) only[go_sem,e0,e1,d0,d1,d2]
        repeat refine AI ?_
        refine cw s2 ?_
        try simp (maxSteps:=9^9) only[go_sem]
        by_cases h3:z3=0
        ·have d3:=decide_eq_true h3
         cases t3:g3<;>rw [t3] at s3
         ·try simp (maxSteps:=9^9) only[go_sem,e0,e1,d0,d1,d2,d3]
          repeat refine AI ?_
          refine cw s3 ?_
          try simp (maxSteps:=9^9) only[go_sem]
          all_goals first|omega|(simp [q0,q1,h0,h1,h2,h3]; done)
         ·try simp (maxSteps:=9^9) only[go_sem,e0,e1,d0,d1,d2,d3]
          repeat refine AI ?_
          refine cw s3 ?_
          try simp (maxSteps:=9^9) only[go_sem]
          all_goals first|omega|(simp [q0,q1,h0,h1,h2,h3]; done)
        ·have d3:=decide_eq_false h3
         try simp (maxSteps:=9^9) only[go_sem,e0,e1,d0,d1,d2,d3]
         all_goals first|omega|(simp [q0,q1,h0,h1,h2,h3]; done)
       ·try simp (maxSteps:=9^9) only[go_sem,e0,e1,d0,d1,d2]
        repeat refine AI ?_
        refine cw s2 ?_
        try simp (maxSteps:=9^9) only[go_sem]
        all_goals first|omega|(simp [q0,q1,h0,h1,h2]; done)
      ·have d2:=decide_eq_false h2
       try simp (maxSteps:=9^9) only[go_sem,e0,e1,d0,d1,d2]
       by_cases h3:z3=0
       ·have d3:=decide_eq_true h3
        cases t3:g3<;>rw [t3] at s3
        ·try simp (maxSteps:=9^9) only[go_sem,e0,e1,d0,d1,d2,d3]
         repeat refine AI ?_
         refine cw s3 ?_
         try simp (maxSteps:=9^9) only[go_sem]
         all_goals first|omega|(simp [q0,q1,h0,h1,h2,h3]; done)
        ·try simp (maxSteps:=9^9) only[go_sem,e0,e1,d0,d1,d2,d3]
         repeat refine AI ?_
         refine cw s3 ?_
         try simp (maxSteps:=9^9) only[go_sem]
         all_goals first|omega|(simp [q0,q1,h0,h1,h2,h3]; done)
       ·have d3:=decide_eq_false h3
        try simp (maxSteps:=9^9) only[go_sem,e0,e1,d0,d1,d2,d3]
        all_goals first|omega|(simp [q0,q1,h0,h1,h2,h3]; done)
     ·try simp (maxSteps:=9^9) only[go_sem,e0,e1,d0,d1]
      repeat refine AI ?_
      refine cw s1 ?_
      try simp (maxSteps:=9^9) only[go_sem]
      all_goals first|omega|(simp [q0,q1,h0,h1]; done)
    ·have d1:=decide_eq_false h1
     try simp (maxSteps:=9^9) only[go_sem,e0,e1,d0,d1]
     by_cases h2:z2=0
     ·have d2:=decide_eq_true h2
      cases t2:g2<;>rw [t2] at s2
      ·try simp (maxSteps:=9^9) only[go_sem,e0,e1,d0,d1,d2]
       repeat refine AI ?_
       refine cw s2 ?_
       try simp (maxSteps:=9^9) only[go_sem]
       by_cases h3:z3=0
       ·have d3:=decide_eq_true h3
        cases t3:g3<;>rw [t3] at s3
        ·try simp (maxSteps:=9^9) only[go_sem,e0,e1,d0,d1,d2,d3]
         repeat refine AI ?_
         refine cw s3 ?_
         try simp (maxSteps:=9^9) only[go_sem]
         all_goals first|omega|(simp [q0,q1,h0,h1,h2,h3]; done)
        ·try simp (maxSteps:=9^9) only[go_sem,e0,e1,d0,d1,d2,d3]
         repeat refine AI ?_
         refine cw s3 ?_
         try simp (maxSteps:=9^9) only[go_sem]
         all_goals first|omega|(simp [q0,q1,h0,h1,h2,h3]; done)
       ·have d3:=decide_eq_false h3
        try simp (maxSteps:=9^9) only[go_sem,e0,e1,d0,d1,d2,d3]
        all_goals first|omega|(simp [q0,q1,h0,h1,h2,h3]; done)
      ·try simp (maxSteps:=9^9) only[go_sem,e0,e1,d0,d1,d2]
       repeat refine AI ?_
       refine cw s2 ?_
       try simp (maxSteps:=9^9) only[go_sem]
       all_goals first|omega|(simp [q0,q1,h0,h1,h2]; done)
     ·have d2:=decide_eq_false h2
      try simp (maxSteps:=9^9) only[go_sem,e0,e1,d0,d1,d2]
      by_cases h3:z3=0
      ·have d3:=decide_eq_true h3
       cases t3:g3<;>rw [t3] at s3
       ·try simp (maxSteps:=9^9) only[go_sem,e0,e1,d0,d1,d2,d3]
        repeat refine AI ?_
        refine cw s3 ?_
        try simp (maxSteps:=9^9) only[go_sem]
        all_goals first|omega|(simp [q0,q1,h0,h1,h2,h3]; done)
       ·try simp (maxSteps:=9^9) only[go_sem,e0,e1,d0,d1,d2,d3]
        repeat refine AI ?_
        refine cw s3 ?_
        try simp (maxSteps:=9^9) only[go_sem]
        all_goals first|omega|(simp [q0,q1,h0,h1,h2,h3]; done)
      ·have d3:=decide_eq_false h3
       try simp (maxSteps:=9^9) only[go_sem,e0,e1,d0,d1,d2,d3]
       all_goals first|omega|(simp [q0,q1,h0,h1,h2,h3]; done)
 ·have e0:=decide_eq_false q0
  try simp (maxSteps:=9^9) only[go_sem,e0]
  repeat refine AI ?_
  by_cases h0:z0=0
  ·have d0:=decide_eq_true h0
   cases t0:g0<;>rw [t0] at s0
   ·try simp (maxSteps:=9^9) only[go_sem,e0,d0]
    repeat refine AI ?_
    refine cw s0 ?_
    try simp (maxSteps:=9^9) only[go_sem]
    by_cases h1:z1=0
    ·have d1:=decide_eq_true h1
     cases t1:g1<;>rw [t1] at s1
     ·try simp (maxSteps:=9^9) only[go_sem,e0,d0,d1]
      repeat refine AI ?_
      refine cw s1 ?_
      try simp (maxSteps:=9^9) only[go_sem]
      by_cases h2:z2=0
      ·have d2:=decide_eq_true h2
       cases t2:g2<;>rw [t2] at s2
       ·try simp (maxSteps:=9^9) only[go_sem,e0,d0,d1,d2]
        repeat refine AI ?_
        refine cw s2 ?_
        try simp (maxSteps:=9^9) only[go_sem]
        by_cases h3:z3=0
        ·have d3:=decide_eq_true h3
         cases t3:g3<;>rw [t3] at s3
         ·try simp (maxSteps:=9^9) only[go_sem,e0,d0,d1,d2,d3]
          repeat refine AI ?_
          refine cw s3 ?_
          try simp (maxSteps:=9^9) only[go_sem]
          all_goals first|omega|(simp [q0,h0,h1,h2,h3]; done)
         ·try simp (maxSteps:=9^9) only[go_sem,e0,d0,d1,d2,d3]
          repeat refine AI ?_
          refine cw s3 ?_
          try simp (maxSteps:=9^9) only[go_sem]
          all_goals first|omega|(simp [q0,h0,h1,h2,h3]; done)
        ·have d3:=decide_eq_false h3
         try simp (maxSteps:=9^9) only[go_sem,e0,d0,d1,d2,d3]
         all_goals first|omega|(simp [q0,h0,h1,h2,h3]; done)
       ·try simp (maxSteps:=9^9) only[go_sem,e0,d0,d1,d2]
        repeat refine AI ?_
        refine cw s2 ?_
        try simp (maxSteps:=9^9) only[go_sem]
        all_goals first|omega|(simp [q0,h0,h1,h2]; done)
      ·have d2:=decide_eq_false h2
       try simp (maxSteps:=9^9) only[go_sem,e0,d0,d1,d2]
       by_cases h3:z3=0
       ·have d3:=decide_eq_true h3
        cases t3:g3<;>rw [t3] at s3
        ·try simp (maxSteps:=9^9) only[go_sem,e0,d0,d1,d2,d3]
         repeat refine AI ?_
         refine cw s3 ?_
         try simp (maxSteps:=9^9) only[go_sem]
         all_goals first|omega|(simp [q0,h0,h1,h2,h3]; done)
        ·try simp (maxSteps:=9^9) only[go_sem,e0,d0,d1,d2,d3]
         repeat refine AI ?_
         refine cw s3 ?_
         try simp (maxSteps:=9^9) only[go_sem]
         all_goals first|omega|(simp [q0,h0,h1,h2,h3]; done)
       ·have d3:=decide_eq_false h3
        try simp (maxSteps:=9^9) only[go_sem,e0,d0,d1,d2,d3]
        all_goals first|omega|(simp [q0,h0,h1,h2,h3]; done)
     ·try simp (maxSteps:=9^9) only[go_sem,e0,d0,d1]
      repeat refine AI ?_
      refine cw s1 ?_
      try simp (maxSteps:=9^9) only[go_sem]
      all_goals first|omega|(simp [q0,h0,h1]; done)
    ·have d1:=decide_eq_false h1
     try simp (maxSteps:=9^9) only[go_sem,e0,d0,d1]
     by_cases h2:z2=0
     ·have d2:=decide_eq_true h2
      cases t2:g2<;>rw [t2] at s2
      ·try simp (maxSteps:=9^9) only[go_sem,e0,d0,d1,d2]
       repeat refine AI ?_
       refine cw s2 ?_
       try simp (maxSteps:=9^9) only[go_sem]
       by_cases h3:z3=0
       ·have d3:=decide_eq_true h3
        cases t3:g3<;>rw [t3] at s3
        ·try simp (maxSteps:=9^9) only[go_sem,e0,d0,d1,d2,d3]
         repeat refine AI ?_
         refine cw s3 ?_
         try simp (maxSteps:=9^9) only[go_sem]
         all_goals first|omega|(simp [q0,h0,h1,h2,h3]; done)
        ·try simp (maxSteps:=9^9) only[go_sem,e0,d0,d1,d2,d3]
         repeat refine AI ?_
         refine cw s3 ?_
         try simp (maxSteps:=9^9) only[go_sem]
         all_goals first|omega|(simp [q0,h0,h1,h2,h3]; done)
       ·have d3:=decide_eq_false h3
        try simp (maxSteps:=9^9) only[go_sem,e0,d0,d1,d2,d3]
        all_goals first|omega|(simp [q0,h0,h1,h2,h3]; done)
      ·try simp (maxSteps:=9^9) only[go_sem,e0,d0,d1,d2]
       repeat refine AI ?_
       refine cw s2 ?_
       try simp (maxSteps:=9^9) only[go_sem]
       all_goals first|omega|(simp [q0,h0,h1,h2]; done)
     ·have d2:=decide_eq_false h2
      try simp (maxSteps:=9^9) only[go_sem,e0,d0,d1,d2]
      by_cases h3:z3=0
      ·have d3:=decide_eq_true h3
       cases t3:g3<;>rw [t3] at s3
       ·try simp (maxSteps:=9^9) only[go_sem,e0,d0,d1,d2,d3]
        repeat refine AI ?_
        refine cw s3 ?_
        try simp (maxSteps:=9^9) only[go_sem]
        all_goals first|omega|(simp [q0,h0,h1,h2,h3]; done)
       ·try simp (maxSteps:=9^9) only[go_sem,e0,d0,d1,d2,d3]
        repeat refine AI ?_
        refine cw s3 ?_
        try simp (maxSteps:=9^9) only[go_sem]
        all_goals first|omega|(simp [q0,h0,h1,h2,h3]; done)
      ·have d3:=decide_eq_false h3
       try simp (maxSteps:=9^9) only[go_sem,e0,d0,d1,d2,d3]
       all_goals first|omega|(simp [q0,h0,h1,h2,h3]; done)
   ·try simp (maxSteps:=9^9) only[go_sem,e0,d0]
    repeat refine AI ?_
    refine cw s0 ?_
    try simp (maxSteps:=9^9) only[go_sem]
    all_goals first|omega|(simp [q0,h0]; done)
  ·have d0:=decide_eq_false h0
   try simp (maxSteps:=9^9) only[go_sem,e0,d0]
   by_cases h1:z1=0
   ·have d1:=decide_eq_true h1
    cases t1:g1<;>rw [t1] at s1
    ·try simp (maxSteps:=9^9) only[go_sem,e0,d0,d1]
     repeat refine AI ?_
     refine cw s1 ?_
     try simp (maxSteps:=9^9) only[go_sem]
     by_cases h2:z2=0
     ·have d2:=decide_eq_true h2
      cases t2:g2<;>rw [t2] at s2
      ·try simp (maxSteps:=9^9) only[go_sem,e0,d0,d1,d2]
       repeat refine AI ?_
       refine cw s2 ?_
       try simp (maxSteps:=9^9) only[go_sem]
       by_cases h3:z3=0
       ·have d3:=decide_eq_true h3
        cases t3:g3<;>rw [t3] at s3
        ·try simp (maxSteps:=9^9) only[go_sem,e0,d0,d1,d2,d3]
         repeat refine AI ?_
         refine cw s3 ?_
         try simp (maxSteps:=9^9) only[go_sem]
         all_goals first|omega|(simp [q0,h0,h1,h2,h3]; done)
        ·try simp (maxSteps:=9^9) only[go_sem,e0,d0,d1,d2,d3]
         repeat refine AI ?_
         refine cw s3 ?_
         try simp (maxSteps:=9^9) only[go_sem]
         all_goals first|omega|(simp [q0,h0,h1,h2,h3]; done)
       ·have d3:=decide_eq_false h3
        try simp (maxSteps:=9^9) only[go_sem,e0,d0,d1,d2,d3]
        all_goals first|omega|(simp [q0,h0,h1,h2,h3]; done)
      ·try simp (maxSteps:=9^9) only[go_sem,e0,d0,d1,d2]
       repeat refine AI ?_
       refine cw s2 ?_
       try simp (maxSteps:=9^9) only[go_sem]
       all_goals first|omega|(simp [q0,h0,h1,h2]; done)
     ·have d2:=decide_eq_false h2
      try simp (maxSteps:=9^9) only[go_sem,e0,d0,d1,d2]
      by_cases h3:z3=0
      ·have d3:=decide_eq_true h3
       cases t3:g3<;>rw [t3] at s3
       ·try simp (maxSteps:=9^9) only[go_sem,e0,d0,d1,d2,d3]
        repeat refine AI ?_
        refine cw s3 ?_
        try simp (maxSteps:=9^9) only[go_sem]
        all_goals first|omega|(simp [q0,h0,h1,h2,h3]; done)
       ·try simp (maxSteps:=9^9) only[go_sem,e0,d0,d1,d2,d3]
        repeat refine AI ?_
        refine cw s3 ?_
        try simp (maxSteps:=9^9) only[go_sem]
        all_goals first|omega|(simp [q0,h0,h1,h2,h3]; done)
      ·have d3:=decide_eq_false h3
       try simp (maxSteps:=9^9) only[go_sem,e0,d0,d1,d2,d3]
       all_goals first|omega|(simp [q0,h0,h1,h2,h3]; done)
    ·try simp (maxSteps:=9^9) only[go_sem,e0,d0,d1]
     repeat refine AI ?_
     refine cw s1 ?_
     try simp (maxSteps:=9^9) only[go_sem]
     all_goals first|omega|(simp [q0,h0,h1]; done)
   ·have d1:=decide_eq_false h1
    try simp (maxSteps:=9^9) only[go_sem,e0,d0,d1]
    by_cases h2:z2=0
    ·have d2:=decide_eq_true h2
     cases t2:g2<;>rw [t2] at s2
     ·try simp (maxSteps:=9^9) only[go_sem,e0,d0,d1,d2]
      repeat refine AI ?_
      refine cw s2 ?_
      try simp (maxSteps:=9^9) only[go_sem]
      by_cases h3:z3=0
      ·have d3:=decide_eq_true h3
       cases t3:g3<;>rw [t3] at s3
       ·try simp (maxSteps:=9^9) only[go_sem,e0,d0,d1,d2,d3]
        repeat refine AI ?_
        refine cw s3 ?_
        try simp (maxSteps:=9^9) only[go_sem]
        all_goals first|omega|(simp [q0,h0,h1,h2,h3]; done)
       ·try simp (maxSteps:=9^9) only[go_sem,e0,d0,d1,d2,d3]
        repeat refine AI ?_
        refine cw s3 ?_
        try simp (maxSteps:=9^9) only[go_sem]
        all_goals first|omega|(simp [q0,h0,h1,h2,h3]; done)
      ·have d3:=decide_eq_false h3
       try simp (maxSteps:=9^9) only[go_sem,e0,d0,d1,d2,d3]
       all_goals first|omega|(simp [q0,h0,h1,h2,h3]; done)
     ·try simp (maxSteps:=9^9) only[go_sem,e0,d0,d1,d2]
      repeat refine AI ?_
      refine cw s2 ?_
      try simp (maxSteps:=9^9) only[go_sem]
      all_goals first|omega|(simp [q0,h0,h1,h2]; done)
    ·have d2:=decide_eq_false h2
     try simp (maxSteps:=9^9) only[go_sem,e0,d0,d1,d2]
     by_cases h3:z3=0
     ·have d3:=decide_eq_true h3
      cases t3:g3<;>rw [t3] at s3
      ·try simp (maxSteps:=9^9) only[go_sem,e0,d0,d1,d2,d3]
       repeat refine AI ?_
       refine cw s3 ?_
       try simp (maxSteps:=9^9) only[go_sem]
       all_goals first|omega|(simp [q0,h0,h1,h2,h3]; done)
      ·try simp (maxSteps:=9^9) only[go_sem,e0,d0,d1,d2,d3]
       repeat refine AI ?_
       refine cw s3 ?_
       try simp (maxSteps:=9^9) only[go_sem]
       all_goals first|omega|(simp [q0,h0,h1,h2,h3]; done)
     ·have d3:=decide_eq_false h3
      try simp (maxSteps:=9^9) only[go_sem,e0,d0,d1,d2,d3]
      all_goals first|omega|(simp [q0,h0,h1,h2,h3]; done)
noncomputable def smI_ (l:List DV) (p q:DP) (i:Nat):Bool:=meetB p q (ptV (nth (t:=tVec) l i)) (ptV (nth (t:=tVec) l (nxt l.length i).toNat))
def smAny (l:List DV) (p q:DP):Prop:=∃ i,i < l.length/\smI_ l p q i=true
noncomputable def segB (l:List DV) (p q:DP):Bool:=decide (cntI l p l.length ≥ 0) || (decide (cntI l q l.length ≥ 0) || bdec (smAny l p q))
theorem segmentMeets_fn (l:List DV) (p q:DP) (hl:polyP l) (hp:okPt p=true) (hq:okPt q=true):Fn Tryz.prog 177 [⟨.slice tVec,l⟩,⟨tPoint,p⟩,⟨tPoint,q⟩] false [⟨.bool,segB l p q⟩]:=by
 have h3:3<=l.length:=by have:=hl.1.1; omega
 have hn:l.length<=1048576:=by have:=hl.1.2; omega
 have c1:=contains_fn l p hl.2.1 hn hp
 have c2:=contains_fn l q hl.2.1 hn hq
 have c3:=pointsOf_fn l hn
 have hml:(l.map ptV).length=l.length:=List.length_map ..
 have ptok:∀ i,i < l.length->okPt (ptV (nth (t:=tVec) l i))=true:=fun i hi=>okPt_ptV (hl.2.1 _ (nth_mem hi))
 unfold segB
 by_cases h1:cntI l p l.length ≥ 0
 ·have d1:=decide_eq_true h1
  rw [d1]
  refine fe Tryz.func177 Tryz.ntmps177 Tryz.results177 fun hwf=>?_
  try simp (maxSteps:=9^9) only[go_sem]
  repeat refine AI ?_
  refine cw c1 ?_
  try simp (maxSteps:=9^9) only[go_sem]
  try simp (maxSteps:=9^9) only[go_sem,d1]
  all_goals repeat refine AI ?_
  all_goals first|kernel_rfl|omega|rfl
 ·have d1:=decide_eq_false h1
  rw [d1]
  by_cases h2:cntI l q l.length ≥ 0
  ·have d2:=decide_eq_true h2
   rw [d2]
   refine fe Tryz.func177 Tryz.ntmps177 Tryz.results177 fun hwf=>?_
   try simp (maxSteps:=9^9) only[go_sem]
   repeat refine AI ?_
   refine cw c1 ?_
   try simp (maxSteps:=9^9) only[go_sem]
   try simp (maxSteps:=9^9) only[go_sem,d1]
   repeat refine AI ?_
   refine cw c2 ?_
   try simp (maxSteps:=9^9) only[go_sem]
   try simp (maxSteps:=9^9) only[go_sem,d2]
   all_goals repeat refine AI ?_
   all_goals first|kernel_rfl|omega|rfl
  ·have d2:=decide_eq_false h2
   rw [d2]
   refine fe Tryz.func177 Tryz.ntmps177 Tryz.results177 fun hwf=>?_
   try simp (maxSteps:=9^9) only[go_sem]
   repeat refine AI ?_
   refine cw c1 ?_
   try simp (maxSteps:=9^9) only[go_sem]
   try simp (maxSteps:=9^9) only[go_sem,d1]
   repeat refine AI ?_
   refine cw c2 ?_
   try simp (maxSteps:=9^9) only[go_sem]
   try simp (maxSteps:=9^9) only[go_sem,d2]
   repeat refine AI ?_
   refine cw c3 ?_
   try simp (maxSteps:=9^9) only[go_sem]
   try simp (maxSteps:=9^9) only[go_sem,hml]
   refine LoopG.intro _ _ _ (fun i:Nat=>⟨[(4,.ptr 0 0),(5,.ptr 1 0),(7,.sl tPoint (l.map ptV)),(22,.sl tPoint (l.map ptV)),(23,.sc (.int .i64 l.length)),(24,.sc (.int .i64 i))],[(1,.box (cel tPoint q)),(0,.box (cel tPoint p))]⟩) (fun i=>∀ j,j < i->j < l.length->smI_ l p q j=false) (fun i=>l.length - i) 0 ?_ (fun j h=>absurd h (Nat.not_lt_zero _)) ?_
   ·exact WK
   ·rintro i hi
    try simp (maxSteps:=9^9) only[go_sem]
    refine CondW_dec (fun hA=>?_) (fun hA=>?_)
    ·have hlt:i < l.length:=by omega
     have hr:=nxt_rng (n:=l.length) (i:=i) (by omega)
     have hr2:(nxt l.length i).toNat < l.length:=by omega
     have c4:=meet_fn p q (ptV (nth (t:=tVec) l i)) (ptV (nth (t:=tVec) l (nxt l.length i).toNat)) hp hq (ptok _ (by omega)) (ptok _ hr2)
     rw [show meetB p q (ptV (nth (t:=tVec) l i)) (ptV (nth (t:=tVec) l (nxt l.length i).toNat))=smI_ l p q i from rfl] at c4
     rw [<-nth_ptV hlt,<-nth_ptV hr2] at c4
     unfold nxt at hr hr2 c4
     cases hs:smI_ l p q i<;>rw [hs] at c4
     ·try simp (maxSteps:=9^9) only[go_sem,hml]
      repeat refine AI ?_
      refine RemW.pos (by omega) (by omega) ?_
      try simp (maxSteps:=9^9) only[go_sem,hml]
      repeat refine AI ?_
      repeat refine AI ?_
      refine cw c4 ?_
      try simp (maxSteps:=9^9) only[go_sem]
      repeat refine AI ?_
      refine LoopK.mk (i+1) ?_ (fun j h1 h2=>?_) (by omega)
      ·exact WK
      ·by_cases h:j < i
       ·exact hi j h h2
       ·rw [show j=i by omega]; exact hs
     ·have e:bdec (smAny l p q)=true:=bdec_t ⟨i,hlt,hs⟩
      rw [e]
      try simp (maxSteps:=9^9) only[go_sem,hml]
      repeat refine AI ?_
      refine RemW.pos (by omega) (by omega) ?_
      try simp (maxSteps:=9^9) only[go_sem,hml]
      repeat refine AI ?_
      repeat refine AI ?_
      refine cw c4 ?_
      try simp (maxSteps:=9^9) only[go_sem]
      all_goals repeat refine AI ?_
      all_goals first|kernel_rfl|omega|rfl
    ·have e:bdec (smAny l p q)=false:=bdec_f (by rintro ⟨j,h1,h2⟩; rw [hi j (by omega) h1] at h2; cases h2)
     rw [e]
     try simp (maxSteps:=9^9) only[go_sem]
     all_goals repeat refine AI ?_
     all_goals first|kernel_rfl|omega|rfl
noncomputable def sgmB (l:List DV) (p q:DP):Bool:=okPt p && (okPt q && segB l p q)
theorem SegmentMeetsI_fn (l:List DV) (p q:DP) (hl:polyP l):Fn Tryz.prog 141 [⟨.slice tVec,l⟩,⟨tPoint,p⟩,⟨tPoint,q⟩] false [⟨.bool,sgmB l p q⟩]:=by
 have c0:=implIsPolygon_fn l
 rw [polyB_t hl] at c0
 have c1:=arePoints2_fn p q
 unfold sgmB
 cases hp:okPt p<;>rw [hp] at c1
 ·refine fe Tryz.func141 Tryz.ntmps141 Tryz.results141 fun hwf=>?_
  try simp (maxSteps:=9^9) only[go_sem]
  repeat refine AI ?_
  refine cw c0 ?_
  try simp (maxSteps:=9^9) only[go_sem]
  repeat refine AI ?_
  refine cw c1 ?_
  try simp (maxSteps:=9^9) only[go_sem]
  all_goals repeat refine AI ?_
  all_goals first|kernel_rfl|omega|rfl
 ·cases hq:okPt q<;>rw [hq] at c1
  ·refine fe Tryz.func141 Tryz.ntmps141 Tryz.results141 fun hwf=>?_
   try simp (maxSteps:=9^9) only[go_sem]
   repeat refine AI ?_
   refine cw c0 ?_
   try simp (maxSteps:=9^9) only[go_sem]
   repeat refine AI ?_
   refine cw c1 ?_
   try simp (maxSteps:=9^9) only[go_sem]
   all_goals repeat refine AI ?_
   all_goals first|kernel_rfl|omega|rfl
  ·have c2:=segmentMeets_fn l p q hl hp hq
   refine fe Tryz.func141 Tryz.ntmps141 Tryz.results141 fun hwf=>?_
   try simp (maxSteps:=9^9) only[go_sem]
   repeat refine AI ?_
   refine cw c0 ?_
   try simp (maxSteps:=9^9) only[go_sem]
   repeat refine AI ?_
   refine cw c1 ?_
   try simp (maxSteps:=9^9) only[go_sem]
   repeat refine AI ?_
   refine cw c2 ?_
   try simp (maxSteps:=9^9) only[go_sem]
   all_goals repeat refine AI ?_
   all_goals first|kernel_rfl|omega|rfl
theorem SegmentMeetsS_fn (l:List DV) (p q:DP) (hl:polyP l):Fn Tryz.prog 169 [⟨.slice tVec,l⟩,⟨tPoint,p⟩,⟨tPoint,q⟩] false [⟨.bool,sgmB l p q⟩]:=by
 have h3:3<=l.length:=by have:=hl.1.1; omega
 have hn:l.length<=1048576:=by have:=hl.1.2; omega
 have c0:=specIsPolygon_fn l
 rw [polyB_t hl] at c0
 have v1:=specIsValidPoint_fn p
 have v2:=specIsValidPoint_fn q
 have ptok:∀ i,i < l.length->okPt (ptV (nth (t:=tVec) l i))=true:=fun i hi=>okPt_ptV (hl.2.1 _ (nth_mem hi))
 unfold sgmB
 cases hp:okPt p<;>rw [hp] at v1
 ·refine fe Tryz.func169 Tryz.ntmps169 Tryz.results169 fun hwf=>?_
  try simp (maxSteps:=9^9) only[go_sem]
  repeat refine AI ?_
  refine cw c0 ?_
  try simp (maxSteps:=9^9) only[go_sem]
  repeat refine AI ?_
  refine cw v1 ?_
  try simp (maxSteps:=9^9) only[go_sem]
  all_goals repeat refine AI ?_
  all_goals first|kernel_rfl|omega|rfl
 ·cases hq:okPt q<;>rw [hq] at v2
  ·refine fe Tryz.func169 Tryz.ntmps169 Tryz.results169 fun hwf=>?_
   try simp (maxSteps:=9^9) only[go_sem]
   repeat refine AI ?_
   refine cw c0 ?_
   try simp (maxSteps:=9^9) only[go_sem]
   repeat refine AI ?_
   refine cw v1 ?_
   try simp (maxSteps:=9^9) only[go_sem]
   repeat refine AI ?_
   refine cw v2 ?_
   try simp (maxSteps:=9^9) only[go_sem]
   all_goals repeat refine AI ?_
   all_goals first|kernel_rfl|omega|rfl
  ·have c1:=ContainsS_fn l p hl
   have c2:=ContainsS_fn l q hl
   rw [show cpD l p=cntI l p l.length by unfold cpD; rw [hp,if_pos rfl]] at c1
   rw [show cpD l q=cntI l q l.length by unfold cpD; rw [hq,if_pos rfl]] at c2
   unfold segB
   by_cases h1:cntI l p l.length ≥ 0
   ·have d1:=decide_eq_true h1
    rw [d1]
    refine fe Tryz.func169 Tryz.ntmps169 Tryz.results169 fun hwf=>?_
    try simp (maxSteps:=9^9) only[go_sem]
    repeat refine AI ?_
    refine cw c0 ?_
    try simp (maxSteps:=9^9) only[go_sem]
    repeat refine AI ?_
    refine cw v1 ?_
    try simp (maxSteps:=9^9) only[go_sem]
    repeat refine AI ?_
    refine cw v2 ?_
    try simp (maxSteps:=9^9) only[go_sem]
    repeat refine AI ?_
    refine cw c1 ?_
    try simp (maxSteps:=9^9) only[go_sem]
    try simp (maxSteps:=9^9) only[go_sem,d1]
    all_goals repeat refine AI ?_
    all_goals first|kernel_rfl|omega|rfl
   ·have d1:=decide_eq_false h1
    rw [d1]
    by_cases h2:cntI l q l.length ≥ 0
    ·have d2:=decide_eq_true h2
     rw [d2]
     refine fe Tryz.func169 Tryz.ntmps169 Tryz.results169 fun hwf=>?_
     try simp (maxSteps:=9^9) only[go_sem]
     repeat refine AI ?_
     refine cw c0 ?_
     try simp (maxSteps:=9^9) only[go_sem]
     repeat refine AI ?_
     refine cw v1 ?_
     try simp (maxSteps:=9^9) only[go_sem]
     repeat refine AI ?_
     refine cw v2 ?_
     try simp (maxSteps:=9^9) only[go_sem]
     repeat refine AI ?_
     refine cw c1 ?_
     try simp (maxSteps:=9^9) only[go_sem]
     try simp (maxSteps:=9^9) only[go_sem,d1]
     repeat refine AI ?_
     refine cw c2 ?_
     try simp (maxSteps:=9^9) only[go_sem]
     try simp (maxSteps:=9^9) only[go_sem,d2]
     all_goals repeat refine AI ?_
     all_goals first|kernel_rfl|omega|rfl
    ·have d2:=decide_eq_false h2
     rw [d2]
     refine fe Tryz.func169 Tryz.ntmps169 Tryz.results169 fun hwf=>?_
     try simp (maxSteps:=9^9) only[go_sem]
     repeat refine AI ?_
     refine cw c0 ?_
     try simp (maxSteps:=9^9) only[go_sem]
     repeat refine AI ?_
     refine cw v1 ?_
     try simp (maxSteps:=9^9) only[go_sem]
     repeat refine AI ?_
     refine cw v2 ?_
     try simp (maxSteps:=9^9) only[go_sem]
     repeat refine AI ?_
     refine cw c1 ?_
     try simp (maxSteps:=9^9) only[go_sem]
     try simp (maxSteps:=9^9) only[go_sem,d1]
     repeat refine AI ?_
     refine cw c2 ?_
     try simp (maxSteps:=9^9) only[go_sem]
     try simp (maxSteps:=9^9) only[go_sem,d2]
     refine LoopG.intro _ _ _ (fun i:Nat=>⟨[(0,.sl tVec l),(4,.ptr 0 0),(5,.ptr 1 0),(32,.sl tVec l),(33,.sc (.int .i64 l.length)),(34,.sc (.int .i64 i))],[(1,.box (cel tPoint q)),(0,.box (cel tPoint p))]⟩) (fun i=>∀ j,j < i->j < l.length->smI_ l p q j=false) (fun i=>l.length - i) 0 ?_ (fun j h=>absurd h (Nat.not_lt_zero _)) ?_
     ·exact WK
     ·rintro i hi
      try simp (maxSteps:=9^9) only[go_sem]
      refine CondW_dec (fun hA=>?_) (fun hA=>?_)
      ·have hlt:i < l.length:=by omega
       have hr:=nxt_rng (n:=l.length) (i:=i) (by omega)
       have hr2:(nxt l.length i).toNat < l.length:=by omega
       have c3:=PointOfS_fn (nth (t:=tVec) l i)
       have c4:=PointOfS_fn (nth (t:=tVec) l (nxt l.length i).toNat)
       have c5:=SegmentsMeetS_fn (ptV (nth (t:=tVec) l i)) (ptV (nth (t:=tVec) l (nxt l.length i).toNat)) p q (ptok _ (by omega)) (ptok _ hr2) hp hq
       rw [meetB_swap p q,show meetB p q (ptV (nth (t:=tVec) l i)) (ptV (nth (t:=tVec) l (nxt l.length i).toNat))=smI_ l p q i from rfl] at c5
       unfold nxt at hr hr2 c4 c5
       cases hs:smI_ l p q i<;>rw [hs] at c5
       ·try simp (maxSteps:=9^9) only[go_sem]
        repeat refine AI ?_
        repeat refine AI ?_
        refine cw c3 ?_
        try simp (maxSteps:=9^9) only[go_sem]
        repeat refine AI ?_
        refine RemW.pos (by omega) (by omega) ?_
        try simp (maxSteps:=9^9) only[go_sem]
        repeat refine AI ?_
        repeat refine AI ?_
        refine cw c4 ?_
        try simp (maxSteps:=9^9) only[go_sem]
        repeat refine AI ?_
        refine cw c5 ?_
        try simp (maxSteps:=9^9) only[go_sem]
        repeat refine AI ?_
        refine LoopK.mk (i+1) ?_ (fun j h1 h2=>?_) (by omega)
        ·exact WK
        ·by_cases h:j < i
         ·exact hi j h h2
         ·rw [show j=i by omega]; exact hs
       ·have e:bdec (smAny l p q)=true:=bdec_t ⟨i,hlt,hs⟩
        rw [e]
        try simp (maxSteps:=9^9) only[go_sem]
        repeat refine AI ?_
        repeat refine AI ?_
        refine cw c3 ?_
        try simp (maxSteps:=9^9) only[go_sem]
        repeat refine AI ?_
        refine RemW.pos (by omega) (by omega) ?_
        try simp (maxSteps:=9^9) only[go_sem]
        repeat refine AI ?_
        repeat refine AI ?_
        refine cw c4 ?_
        try simp (maxSteps:=9^9) only[go_sem]
        repeat refine AI ?_
        refine cw c5 ?_
        try simp (maxSteps:=9^9) only[go_sem]
        all_goals repeat refine AI ?_
        all_goals first|kernel_rfl|omega|rfl
      ·have e:bdec (smAny l p q)=false:=bdec_f (by rintro ⟨j,h1,h2⟩; rw [hi j (by omega) h1] at h2; cases h2)
       rw [e]
       try simp (maxSteps:=9^9) only[go_sem]
       all_goals repeat refine AI ?_
       all_goals first|kernel_rfl|omega|rfl
theorem rch_sm {l:List DV} (hl:∀ v ∈ l,inB 20 v=true):∀ i,i<=l.length->0<=rchI l i/\rchI l i<=800
 | 0,_=>by unfold rchI; omega
 | i+1,h=>by
  obtain ⟨h1,h2⟩:=rch_sm hl i (by omega)
  obtain ⟨b1,b2,b3,b4⟩:=inB_b (hl _ (nth_mem (show i < l.length by omega)))
  have s1:=sqI_le b1 b2
  have s2:=sqI_le b3 b4
  unfold rchI
  omega
theorem tv_ok:∀ {l:List DS} {p:DS},tvGo p l=true->∀ i,i < l.length->okPt (nth (t:=tStep) l i).2=true
 | [],_,_,i,h=>by simp at h
 | x :: l,p,hg,i,h=>by
  have h':(tvStep p x && tvGo (stp p x) l)=true:=hg
  rw [Bool.and_eq_true] at h'
  cases i with
  | zero =>
   have:=h'.1
   unfold tvStep at this
   rw [Bool.and_eq_true,Bool.and_eq_true] at this
   exact this.2.1
  | succ i =>
   have:=tv_ok h'.2 i (by simp at h; omega)
   simpa [nth] using this
theorem tour_step {t:DT} (h:tourB t=true) {i:Nat} (hi:i < t.2.2.length):okPt (nth (t:=tStep) t.2.2 i).2=true:=tv_ok (tour_parts h).2.2.2.2 i hi
noncomputable def stpTB (a:DT) (i:Int) (b:DT) (j:Int):Bool :=
 if (nth (t:=tStep) a.2.2 i.toNat).1=0 then sgmB (areaD a i b j) (subP (standP a i).2 (standP b j).2) (subP (nth (t:=tStep) a.2.2 i.toNat).2 (standP b j).2)
 else discB (robD b j) (subP (standP a i).2 (standP b j).2) (rchI a.1 a.1.length)
set_option maxHeartbeats 1000000 in
theorem stepTouches_fn (a:DT) (i:Int) (b:DT) (j:Int) (ha:tourB a=true) (hb:tourB b=true) (h0:0<=i) (h1:i < a.2.2.length):Fn Tryz.prog 99 [⟨tTour,a⟩,⟨.int,i⟩,⟨tTour,b⟩,⟨.int,j⟩] false [⟨.bool,stpTB a i b j⟩]:=by
 have c1:=stand_fn a i
 have c2:=stand_fn b j
 have p1:=(tour_parts ha).1
 have p2:=(tour_parts hb).1
 have l1:=p1.five
 have l2:=p2.five
 have c3:=TurnPolygonI_fn a.1 (standP a i).1 p1.ok (by omega) (standP_hd ha i)
 have c4:=TurnPolygonI_fn b.1 (standP b j).1 p2.ok (by omega) (standP_hd hb j)
 have c6:=differenceP_fn _ _ (standP_ok ha i) (standP_ok hb j)
 by_cases hz:(nth (t:=tStep) a.2.2 i.toNat).1=0
 ·have d1:=decide_eq_true hz
  have c5:=ObstacleForI_fn _ _ (robD_sm ha i) (robD_sm hb j) (by decide)
  have c7:=differenceP_fn _ _ (tour_step ha (i:=i.toNat) (by omega)) (standP_ok hb j)
  have c8:=SegmentMeetsI_fn (areaD a i b j) (subP (standP a i).2 (standP b j).2) (subP (nth (t:=tStep) a.2.2 i.toNat).2 (standP b j).2) (areaD_poly ha hb i j)
  rw [show stpTB a i b j=sgmB (areaD a i b j) (subP (standP a i).2 (standP b j).2) (subP (nth (t:=tStep) a.2.2 i.toNat).2 (standP b j).2) from if_pos hz]
  unfold robD at c5
  unfold areaD robD at c8 ⊢
  refine fe Tryz.func99 Tryz.ntmps99 Tryz.results99 fun hwf=>?_
  try simp (maxSteps:=9^9) only[go_sem]
  repeat refine AI ?_
  refine cw c1 ?_
  try simp (maxSteps:=9^9) only[go_sem]
  repeat refine AI ?_
  refine cw c2 ?_
  try simp (maxSteps:=9^9) only[go_sem]
  repeat refine AI ?_
  repeat refine AI ?_
  refine cw c4 ?_
  try simp (maxSteps:=9^9) only[go_sem]
  try simp (maxSteps:=9^9) only[go_sem,d1]
  repeat refine AI ?_
  refine cw c3 ?_
  try simp (maxSteps:=9^9) only[go_sem]
  repeat refine AI ?_
  refine cw c5 ?_
  try simp (maxSteps:=9^9) only[go_sem]
  repeat refine AI ?_
  repeat refine AI ?_
  refine cw c6 ?_
  try simp (maxSteps:=9^9) only[go_sem]
  repeat refine AI ?_
  refine cw c7 ?_
  try simp (maxSteps:=9^9) only[go_sem]
  repeat refine AI ?_
  refine cw c8 ?_
  try simp (maxSteps:=9^9) only[go_sem]
  all_goals repeat refine AI ?_
  all_goals first|kernel_rfl|omega|rfl
 ·have d1:=decide_eq_false hz
  have hr:=rch_sm p1.ins a.1.length (Nat.le_refl _)
  have c5:=ReachSquareI_fn a.1 p1.poly
  have c7:=DiscTouchesI_fn (robD b j) (subP (standP a i).2 (standP b j).2) (rchI a.1 a.1.length) (robD_sm hb j).poly (by omega)
  rw [show stpTB a i b j=discB (robD b j) (subP (standP a i).2 (standP b j).2) (rchI a.1 a.1.length) from if_neg hz]
  unfold robD at c7 ⊢
  refine fe Tryz.func99 Tryz.ntmps99 Tryz.results99 fun hwf=>?_
  try simp (maxSteps:=9^9) only[go_sem]
  repeat refine AI ?_
  refine cw c1 ?_
  try simp (maxSteps:=9^9) only[go_sem]
  repeat refine AI ?_
  refine cw c2 ?_
  try simp (maxSteps:=9^9) only[go_sem]
  repeat refine AI ?_
  repeat refine AI ?_
  refine cw c4 ?_
  try simp (maxSteps:=9^9) only[go_sem]
  try simp (maxSteps:=9^9) only[go_sem,d1]
  repeat refine AI ?_
  refine cw c6 ?_
  try simp (maxSteps:=9^9) only[go_sem]
  repeat refine AI ?_
  refine cw c5 ?_
  try simp (maxSteps:=9^9) only[go_sem]
  repeat refine AI ?_
  refine cw c7 ?_
  try simp (maxSteps:=9^9) only[go_sem]
  all_goals repeat refine AI ?_
  all_goals first|kernel_rfl|omega|rfl
noncomputable def stpTouch (a:DT) (i:Int) (b:DT) (j:Int):Bool:=!standB a i || (decide (i=(a.2.2.length:Int)) || (!standB b j || stpTB a i b j))
theorem standB_rng {t:DT} {k:Int} (h:standB t k=true):0<=k/\k<=t.2.2.length:=by
 unfold standB at h
 rw [Bool.and_eq_true] at h
 exact of_decide_eq_true h.2
set_option maxHeartbeats 1000000 in
theorem StepTouchesS_fn (a:DT) (i:Int) (b:DT) (j:Int):Fn Tryz.prog 125 [⟨tTour,a⟩,⟨.int,i⟩,⟨tTour,b⟩,⟨.int,j⟩] false [⟨.bool,stpTouch a i b j⟩]:=by
 have c1:=specStandOf_fn a i
 have c2:=specStandOf_fn b j
 unfold stpTouch
 cases h1:standB a i<;>rw [h1] at c1
 ·refine fe Tryz.func125 Tryz.ntmps125 Tryz.results125 fun hwf=>?_
  try simp (maxSteps:=9^9) only[go_sem]
  repeat refine AI ?_
  refine CallW.t (c1) ?_
  try simp (maxSteps:=9^9) only[go_sem]
  repeat refine AI ?_
  refine CallW.t (c2) ?_
  try simp (maxSteps:=9^9) only[go_sem]
  all_goals repeat refine AI ?_
  all_goals first|kernel_rfl|omega|rfl
 ·cases h2:standB b j<;>rw [h2] at c2
  ·have e:(decide (i=(a.2.2.length:Int)) || (!false || stpTB a i b j))=true:=by simp
   rw [Bool.not_true,Bool.false_or,e]
   refine fe Tryz.func125 Tryz.ntmps125 Tryz.results125 fun hwf=>?_
   try simp (maxSteps:=9^9) only[go_sem]
   repeat refine AI ?_
   refine CallW.t (c1) ?_
   try simp (maxSteps:=9^9) only[go_sem]
   repeat refine AI ?_
   refine CallW.t (c2) ?_
   try simp (maxSteps:=9^9) only[go_sem]
   all_goals repeat refine AI ?_
   all_goals first|kernel_rfl|omega|rfl
  ·have hr:=standB_rng h1
   have ha:=standB_t h1
   have hb:=standB_t h2
   have p1:=(tour_parts ha).1
   have p2:=(tour_parts hb).1
   have l1:=p1.five
   have l2:=p2.five
   by_cases hi:i=(a.2.2.length:Int)
   ·have d1:=decide_eq_true (p:=i ≥ (a.2.2.length:Int)) (by omega)
    rw [decide_eq_true hi]
    refine fe Tryz.func125 Tryz.ntmps125 Tryz.results125 fun hwf=>?_
    try simp (maxSteps:=9^9) only[go_sem]
    repeat refine AI ?_
    refine CallW.t (c1) ?_
    try simp (maxSteps:=9^9) only[go_sem]
    repeat refine AI ?_
    refine CallW.t (c2) ?_
    try simp (maxSteps:=9^9) only[go_sem]
    try simp (maxSteps:=9^9) only[go_sem,d1]
    all_goals repeat refine AI ?_
    all_goals first|kernel_rfl|omega|rfl
   ·have d1:=decide_eq_false (p:=i ≥ (a.2.2.length:Int)) (by omega)
    rw [decide_eq_false hi,Bool.not_true,Bool.false_or,Bool.false_or,Bool.false_or]
    rw [standO_t h1] at c1
    rw [standO_t h2] at c2
    have c3:=TurnPolygonS_fn a.1 (standP a i).1 p1.ok (by omega) (standP_hd ha i)
    have c4:=TurnPolygonS_fn b.1 (standP b j).1 p2.ok (by omega) (standP_hd hb j)
    have c6:=specSubtractPoints_fn (standP a i).2 (standP b j).2
    by_cases hz:(nth (t:=tStep) a.2.2 i.toNat).1=0
    ·have d2:=decide_eq_true hz
     have c5:=ObstacleForS_fn _ _ (robD_sm ha i) (robD_sm hb j) (by decide)
     have c7:=specSubtractPoints_fn (nth (t:=tStep) a.2.2 i.toNat).2 (standP b j).2
     have c8:=SegmentMeetsS_fn (areaD a i b j) (subP (standP a i).2 (standP b j).2) (subP (nth (t:=tStep) a.2.2 i.toNat).2 (standP b j).2) (areaD_poly ha hb i j)
     rw [show stpTB a i b j=sgmB (areaD a i b j) (subP (standP a i).2 (standP b j).2) (subP (nth (t:=tStep) a.2.2 i.toNat).2 (standP b j).2) from if_pos hz]
     unfold robD at c5
     unfold areaD robD at c8 ⊢
     refine fe Tryz.func125 Tryz.ntmps125 Tryz.results125 fun hwf=>?_
     try simp (maxSteps:=9^9) only[go_sem]
     repeat refine AI ?_
     refine CallW.t (c1) ?_
     try simp (maxSteps:=9^9) only[go_sem]
     repeat refine AI ?_
     refine CallW.t (c2) ?_
     try simp (maxSteps:=9^9) only[go_sem]
     try simp (maxSteps:=9^9) only[go_sem,d1]
     repeat refine AI ?_
     repeat refine AI ?_
     refine cw c4 ?_
     try simp (maxSteps:=9^9) only[go_sem]
     try simp (maxSteps:=9^9) only[go_sem,d2]
     repeat refine AI ?_
     refine cw c3 ?_
     try simp (maxSteps:=9^9) only[go_sem]
     repeat refine AI ?_
     refine cw c5 ?_
     try simp (maxSteps:=9^9) only[go_sem]
     repeat refine AI ?_
     repeat refine AI ?_
     refine CallW.mx (c6) ?_
     try simp (maxSteps:=9^9) only[go_sem]
     repeat refine AI ?_
     refine CallW.mx (c7) ?_
     try simp (maxSteps:=9^9) only[go_sem]
     repeat refine AI ?_
     refine CallW.mx (c8) ?_
     try simp (maxSteps:=9^9) only[go_sem]
     all_goals repeat refine AI ?_
     all_goals first|kernel_rfl|omega|rfl
    ·have d2:=decide_eq_false hz
     have hr2:=rch_sm p1.ins a.1.length (Nat.le_refl _)
     have c5:=ReachSquareS_fn a.1 p1.poly
     have c7:=DiscTouchesS_fn (robD b j) (subP (standP a i).2 (standP b j).2) (rchI a.1 a.1.length) (robD_sm hb j).poly (by omega)
     rw [show stpTB a i b j=discB (robD b j) (subP (standP a i).2 (standP b j).2) (rchI a.1 a.1.length) from if_neg hz]
     unfold robD at c7 ⊢
     refine fe Tryz.func125 Tryz.ntmps125 Tryz.results125 fun hwf=>?_
     try simp (maxSteps:=9^9) only[go_sem]
     repeat refine AI ?_
     refine CallW.t (c1) ?_
     try simp (maxSteps:=9^9) only[go_sem]
     repeat refine AI ?_
     refine CallW.t (c2) ?_
     try simp (maxSteps:=9^9) only[go_sem]
     try simp (maxSteps:=9^9) only[go_sem,d1]
     repeat refine AI ?_
     repeat refine AI ?_
     refine cw c4 ?_
     try simp (maxSteps:=9^9) only[go_sem]
     try simp (maxSteps:=9^9) only[go_sem,d2]
     repeat refine AI ?_
     refine CallW.mx (c6) ?_
     try simp (maxSteps:=9^9) only[go_sem]
     repeat refine AI ?_
     refine CallW.mx (c5) ?_
     try simp (maxSteps:=9^9) only[go_sem]
     repeat refine AI ?_
     refine CallW.mx (c7) ?_
     try simp (maxSteps:=9^9) only[go_sem]
     all_goals repeat refine AI ?_
     all_goals first|kernel_rfl|omega|rfl
noncomputable def tabRow (a b:DT) (i:Nat) (n:Nat):List Bool:=(List.range n).map fun (j:Nat)=>stpTB a i b j
noncomputable def tabTo (a b:DT) (n:Nat):List (List Bool):=(List.range n).map fun (i:Nat)=>tabRow a b i (b.2.2.length+1)
noncomputable def tabD (a b:DT):List (List Bool):=if (tourB a && tourB b)=true then tabTo a b a.2.2.length else []
theorem tabRow_s (a b:DT) (i n:Nat):tabRow a b i (n+1)=tabRow a b i n++[stpTB a i b n]:=by
 unfold tabRow; rw [List.range_succ,List.map_append]; rfl
theorem tabTo_s (a b:DT) (n:Nat):tabTo a b (n+1)=tabTo a b n++[tabRow a b n (b.2.2.length+1)]:=by
 unfold tabTo; rw [List.range_succ,List.map_append]; rfl
theorem tabRow_len (a b:DT) (i n:Nat):(tabRow a b i n).length=n:=by simp [tabRow]
theorem tabTo_len (a b:DT) (n:Nat):(tabTo a b n).length=n:=by simp [tabTo]
theorem TouchTableI_fn (a b:DT):Fn Tryz.prog 66 [⟨tTour,a⟩,⟨tTour,b⟩] true [⟨.slice (.slice .bool),tabD a b⟩]:=by
 have v1:=implIsValidTour_fn a
 have v2:=implIsValidTour_fn b
 cases ha:tourB a
 ·rw [ha] at v1
  rw [show tabD a b=[] from if_neg (by rw [ha]; simp)]
  refine fe Tryz.func66 Tryz.ntmps66 Tryz.results66 fun hwf=>?_
  try simp (maxSteps:=9^9) only[go_sem]
  repeat refine AI ?_
  refine cw v1 ?_
  try simp (maxSteps:=9^9) only[go_sem]
  all_goals repeat refine AI ?_
  all_goals first|kernel_rfl|omega|rfl
 ·rw [ha] at v1
  cases hb:tourB b
  ·rw [hb] at v2
   rw [show tabD a b=[] from if_neg (by rw [hb,Bool.and_false]; decide)]
   refine fe Tryz.func66 Tryz.ntmps66 Tryz.results66 fun hwf=>?_
   try simp (maxSteps:=9^9) only[go_sem]
   repeat refine AI ?_
   refine cw v1 ?_
   try simp (maxSteps:=9^9) only[go_sem]
   repeat refine AI ?_
   refine cw v2 ?_
   try simp (maxSteps:=9^9) only[go_sem]
   all_goals repeat refine AI ?_
   all_goals first|kernel_rfl|omega|rfl
  ·rw [hb] at v2
   rw [show tabD a b=tabTo a b a.2.2.length from if_pos (by rw [ha,hb]; rfl)]
   have hla:=(tour_parts ha).2.2.2.1
   have hlb:=(tour_parts hb).2.2.2.1
   refine fe Tryz.func66 Tryz.ntmps66 Tryz.results66 fun hwf=>?_
   try simp (maxSteps:=9^9) only[go_sem]
   repeat refine AI ?_
   refine cw v1 ?_
   try simp (maxSteps:=9^9) only[go_sem]
   repeat refine AI ?_
   refine cw v2 ?_
   try simp (maxSteps:=9^9) only[go_sem]
   repeat refine AI ?_
   refine LoopG.intro _ _ _ (fun i:Nat=>⟨[(2,.ptr 0 0),(3,.ptr 1 0),(5,.row 2 0),(20,.sc (.int .i64 a.2.2.length)),(21,.sc (.int .i64 i))],[(0,.box (cel tTour a)),(1,.box (cel tTour b)),(2,.row 95 (.slice .bool) 0 true (tabTo a b i))]⟩) (fun i=>i<=a.2.2.length) (fun i=>a.2.2.length - i) 0 ?_ (Nat.zero_le _) ?_
   ·exact WK
   ·rintro i hi
    try simp (maxSteps:=9^9) only[go_sem]
    refine CondW_dec (fun hA=>?_) (fun hA=>?_)
    ·try simp (maxSteps:=9^9) only[go_sem]
     repeat refine AI ?_
     refine LoopG.intro _ _ _ (fun j:Nat=>⟨[(2,.ptr 0 0),(3,.ptr 1 0),(5,.row 2 0),(6,.sc (.int .i64 i)),(7,.row 3 0),(20,.sc (.int .i64 a.2.2.length)),(21,.sc (.int .i64 i)),(28,.sc (.int .i64 ((b.2.2.length:Int)+1))),(29,.sc (.int .i64 j))],[(0,.box (cel tTour a)),(1,.box (cel tTour b)),(2,.row 95 (.slice .bool) 0 true (tabTo a b i)),(3,.row 4 .bool 0 true (tabRow a b i j))]⟩) (fun j=>j<=b.2.2.length+1) (fun j=>b.2.2.length+1 - j) 0 ?_ (Nat.zero_le _) ?_
     ·exact WK
     ·rintro j hj
      have hrl:=tabRow_len a b i j
      try simp (maxSteps:=9^9) only[go_sem]
      refine CondW_dec (fun hB=>?_) (fun hB=>?_)
      ·have c1:=stepTouches_fn a i b j ha hb (by omega) (by omega)
       try simp (maxSteps:=9^9) only[go_sem]
       repeat refine AI ?_
       repeat refine AI ?_
       refine cw c1 ?_
       try simp (maxSteps:=9^9) only[go_sem]
       try simp (maxSteps:=9^9) only[go_sem,hrl]
       repeat refine AI ?_
       refine LoopK.mk (j+1) ?_ (by omega) (by omega)
       rw [tabRow_s]
       exact WK
      ·have hj2:j=b.2.2.length+1:=by omega
       subst hj2
       have htl:=tabTo_len a b i
       try simp (maxSteps:=9^9) only[go_sem,htl]
       repeat refine AI ?_
       refine LoopK.mk (i+1) ?_ (by omega) (by omega)
       rw [tabTo_s]
       exact WK
    ·have hi2:i=a.2.2.length:=by omega
     subst hi2
     try simp (maxSteps:=9^9) only[go_sem]
     all_goals repeat refine AI ?_
     all_goals first|kernel_rfl|omega|rfl
def stAt (l:List DT) (st:List Int) (i:Nat):Prop:=0<=ni st i/\ni st i<=(nth (t:=tTour) l i).2.2.length
def stP (l:List DT) (st:List Int):Prop:=st.length=l.length/\∀ i,i < st.length->stAt l st i
def frAt (l:List DT) (st:List Int) (k j:Nat):Prop:=j ≠ k->stpTB (nth (t:=tTour) l k) (ni st k) (nth (t:=tTour) l j) (ni st j)=false
def frP (l:List DT) (st:List Int) (k:Nat):Prop:=ni st k ≠ (nth (t:=tTour) l k).2.2.length/\∀ j,j < l.length->frAt l st k j
theorem stpTouch_ti {a b:DT} {i j:Int} (ha:tourB a=true) (hb:tourB b=true) (hi:0<=i/\i < a.2.2.length) (hj:0<=j/\j<=b.2.2.length):stpTouch a i b j=stpTB a i b j:=by
 have h1:standB a i=true:=by unfold standB; rw [ha,Bool.true_and]; exact decide_eq_true (by omega)
 have h2:standB b j=true:=by unfold standB; rw [hb,Bool.true_and]; exact decide_eq_true (by omega)
 have h3:decide (i=(a.2.2.length:Int))=false:=decide_eq_false (by omega)
 unfold stpTouch
 rw [h1,h2,h3]; rfl
theorem l28Free_fn (l:List DT) (st:List Int) (k:Nat) (har:arP l) (hst:stP l st) (hk:k < l.length):Fn Tryz.prog 86 [⟨.slice tTour,l⟩,⟨tInts,st⟩,⟨.int,k⟩] false [⟨.bool,bdec (frP l st k)⟩]:=by
 have hkv:=hst.2 k (by rw [hst.1]; exact hk)
 have hlen:=hst.1
 by_cases h0:ni st k=(nth (t:=tTour) l k).2.2.length
 ·have d0:=decide_eq_true h0
  rw [bdec_f fun h=>h.1 h0]
  refine fe Tryz.func86 Tryz.ntmps86 Tryz.results86 fun hwf=>?_
  try simp (maxSteps:=9^9) only[go_sem]
  repeat refine AI ?_
  try simp (maxSteps:=9^9) only[go_sem,d0]
  all_goals repeat refine AI ?_
  all_goals first|kernel_rfl|omega|rfl
 ·have d0:=decide_eq_false h0
  refine fe Tryz.func86 Tryz.ntmps86 Tryz.results86 fun hwf=>?_
  have hl:l.length<=9223372036854775807:=(hwf ⟨.slice tTour,l⟩ (by simp)).1
  try simp (maxSteps:=9^9) only[go_sem]
  repeat refine AI ?_
  try simp (maxSteps:=9^9) only[go_sem,d0]
  refine LoopG.intro _ _ _ (fun j:Nat=>⟨[(0,.sl tTour l),(1,.sl .int st),(2,.sc (.int .i64 k)),(20,.sl tTour l),(21,.sc (.int .i64 l.length)),(22,.sc (.int .i64 j))],[]⟩) (fun j=>j<=l.length/\∀ i,i < j->frAt l st k i) (fun j=>l.length - j) 0 ?_ ⟨Nat.zero_le _,fun j h=>absurd h (Nat.not_lt_zero _)⟩ ?_
  ·exact WK
  ·rintro j ⟨hj,hall⟩
   try simp (maxSteps:=9^9) only[go_sem]
   refine CondW_dec (fun hA=>?_) (fun hA=>?_)
   ·have hlt:j < l.length:=by omega
    by_cases hjk:(j:Int)=k
    ·have d1:=decide_eq_true hjk
     try simp (maxSteps:=9^9) only[go_sem]
     repeat refine AI ?_
     try simp (maxSteps:=9^9) only[go_sem,d1]
     repeat refine AI ?_
     refine LoopK.mk (j+1) ?_ ⟨by omega,fun i hi=>?_⟩ (by omega)
     ·exact WK
     ·by_cases h:i < j
      ·exact hall i h
      ·intro hne; omega
    ·have d1:=decide_eq_false hjk
     have hjv:=hst.2 j (by rw [hst.1]; exact hlt)
     have c1:=StepTouchesS_fn (nth (t:=tTour) l k) (ni st k) (nth (t:=tTour) l j) (ni st j)
     rw [stpTouch_ti (har k hk).1 (har j hlt).1 ⟨hkv.1,by have:=hkv.2; omega⟩ hjv] at c1
     cases hs:stpTB (nth (t:=tTour) l k) (ni st k) (nth (t:=tTour) l j) (ni st j)<;>rw [hs] at c1
     ·try simp (maxSteps:=9^9) only[go_sem]
      repeat refine AI ?_
      try simp (maxSteps:=9^9) only[go_sem,d1]
      repeat refine AI ?_
      repeat refine AI ?_
      refine cw c1 ?_
      try simp (maxSteps:=9^9) only[go_sem]
      repeat refine AI ?_
      refine LoopK.mk (j+1) ?_ ⟨by omega,fun i hi=>?_⟩ (by omega)
      ·exact WK
      ·by_cases h:i < j
       ·exact hall i h
       ·rw [show i=j by omega]; exact fun _=>hs
     ·rw [bdec_f fun h=>by have:=h.2 j hlt (by omega); rw [hs] at this; cases this]
      try simp (maxSteps:=9^9) only[go_sem]
      repeat refine AI ?_
      try simp (maxSteps:=9^9) only[go_sem,d1]
      repeat refine AI ?_
      repeat refine AI ?_
      refine cw c1 ?_
      try simp (maxSteps:=9^9) only[go_sem]
      all_goals repeat refine AI ?_
      all_goals first|kernel_rfl|omega|rfl
   ·rw [bdec_t ⟨h0,fun j hj=>hall j (by omega)⟩]
    try simp (maxSteps:=9^9) only[go_sem]
    all_goals repeat refine AI ?_
    all_goals first|kernel_rfl|omega|rfl
theorem arB_p {l:List DT} (h:arB l=true):(1<=l.length/\l.length<=3)/\arP l:=by
 unfold arB at h
 rw [Bool.and_eq_true] at h
 have h1:=of_decide_eq_true h.1
 refine ⟨by omega,?_⟩
 by_cases hp:arP l
 ·exact hp
 ·rw [bdec_f hp] at h; exact absurd h.2 (by decide)
end Go.Proofs.YtbnkojgcbmfloaaGreat.DW
