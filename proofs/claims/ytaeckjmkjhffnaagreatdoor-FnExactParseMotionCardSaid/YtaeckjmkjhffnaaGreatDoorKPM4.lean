/-
  Texts of a proof, one behind another: Dw115, Dw117, Dw116, Dw118, Open, Opens, LwA, Sz, To, Eq, Mark, Held, LwH, Cn, Dw11, Dw12, Dw13, Dw16, Dw18, Dw21, Dw112, Dw113, Dw120, Dw121, Dw122, Dw123, Dw124, Dw125, SoC, Dw126, Dw114, Dw127, Dw128, CnO, CnPl, CnPm, LawParseMotion, TabL.
-/
import Derived.ProofKit
import Derived.Deep.Slices
import Derived.Test.YtaeckjmkjhffnaaGreatDoorRows
import Derived.Test.YtaeckjmkjhffnaaGreatDoorProg
import Derived.Shelf.Strings.Count
import Derived.Lib.LaidTab
import Derived.LaidMore
import Derived.MakeChecks
import Derived.Test.YtaeckjmkjhffnaaGreatDoorKPM3
set_option linter.all false
set_option maxRecDepth 100000
namespace Go.Proofs.YtaeckjmkjhffnaaGreatDoor.DW
open Go.RowKit
def isD (c:UInt8):Prop:=48<=c.toNat/\c.toNat<=57
def digP (s:List UInt8):Prop:=s ≠ []/\∀ c ∈ s,isD c
def dvN:Nat->List UInt8->Nat
 | n,[]=>n
 | n,c :: s=>dvN (10 * n+(c.toNat - 48)) s
def dv (s:List UInt8):Nat:=dvN 0 s
theorem dvN_app (s t:List UInt8):∀ n,dvN n (s++t)=dvN (dvN n s) t:=by
 induction s with
 | nil=>intro n; rfl
 | cons c s ih=>intro n; exact ih _
theorem dvN_lt (s:List UInt8) (h:∀ c ∈ s,isD c):∀ n,dvN n s < (n+1) * 10 ^ s.length:=by
 induction s with
 | nil=>intro n; rw [List.length_nil,Nat.pow_zero,Nat.mul_one]; exact Nat.lt_succ_self n
 | cons c s ih =>
  intro n
  obtain ⟨_,hc2⟩:=h c List.mem_cons_self
  have h1:=ih (fun x hx=>h x (List.mem_cons_of_mem _ hx)) (10 * n+(c.toNat - 48))
  have e:(n+1) * 10 ^ (c :: s).length=(10 * n+10) * 10 ^ s.length:=by
   rw [List.length_cons,Nat.pow_succ,Nat.mul_comm (10 ^ s.length) 10,<-Nat.mul_assoc,Nat.add_mul,Nat.mul_comm n 10]
  rw [e]
  have h2:10 * n+(c.toNat - 48)+1<=10 * n+10:=by omega
  have h3:dvN n (c :: s)=dvN (10 * n+(c.toNat - 48)) s:=rfl
  rw [h3]
  exact Nat.lt_of_lt_of_le h1 (Nat.mul_le_mul h2 (Nat.le_refl (10 ^ s.length)))
theorem dg1_isD {n:Int} (h0:0<=n) (h:n<=9):isD (dg1 n)/\(dg1 n).toNat=48+n.toNat:=by
 have:(dg1 n).toNat=48+n.toNat:=by
  rw [dg1,UInt8.toNat_ofNat']
  omega
 exact ⟨by unfold isD; omega,this⟩
theorem dgs_dig:∀ (k:Nat) (n:Int),0<=n->n.toNat<=k->(∀ c ∈ dgs n,isD c)/\dv (dgs n)=n.toNat/\dgs n ≠ []:=by
 intro k
 induction k with
 | zero =>
  intro n h0 hk
  obtain rfl:n=0:=by omega
  rw [dgs_lt (by omega) (by omega)]
  have:=dg1_isD (n:=0) (by omega) (by omega)
  refine ⟨fun c hc=>by rw [List.mem_singleton.1 hc]; exact this.1,?_,by simp⟩
  show 10 * 0+((dg1 0).toNat - 48)=_
  rw [this.2]; rfl
 | succ k ih =>
  intro n h0 hk
  by_cases h9:n<=9
  ·rw [dgs_lt h0 h9]
   have:=dg1_isD h0 h9
   refine ⟨fun c hc=>by rw [List.mem_singleton.1 hc]; exact this.1,?_,by simp⟩
   show 10 * 0+((dg1 n).toNat - 48)=_
   rw [this.2]; omega
  ·rw [dgs_ge (by omega)]
   obtain ⟨h1,h2,h3⟩:=ih (n / 10) (by omega) (by omega)
   have:=dg1_isD (n:=n % 10) (by omega) (by omega)
   refine ⟨fun c hc=>?_,?_,by simp⟩
   ·rcases List.mem_append.1 hc with hc|hc
    ·exact h1 c hc
    ·rw [List.mem_singleton.1 hc]; exact this.1
   ·rw [dv,dvN_app]
    rw [dv] at h2
    rw [h2]
    show 10 * (n / 10).toNat+((dg1 (n % 10)).toNat - 48)=_
    rw [this.2]; omega
theorem dgs_D {n:Int} (h0:0<=n):∀ c ∈ dgs n,isD c:=(dgs_dig _ n h0 (Nat.le_refl _)).1
theorem dgs_dv {n:Int} (h0:0<=n):dv (dgs n)=n.toNat:=(dgs_dig _ n h0 (Nat.le_refl _)).2.1
theorem dgs_ne {n:Int} (h0:0<=n):dgs n ≠ []:=(dgs_dig _ n h0 (Nat.le_refl _)).2.2
theorem dgs_head:∀ (k:Nat) (n:Int),1<=n->n.toNat<=k->∃ c s,dgs n=c :: s/\c ≠ 48:=by
 intro k
 induction k with
 | zero=>intro n h0 hk; omega
 | succ k ih =>
  intro n h0 hk
  by_cases h9:n<=9
  ·refine ⟨dg1 n,[],dgs_lt (by omega) h9,fun e=>?_⟩
   have:=(dg1_isD (n:=n) (by omega) h9).2
   rw [e] at this
   have h48:(48:UInt8).toNat=48:=rfl
   omega
  ·obtain ⟨c,s,e,hc⟩:=ih (n / 10) (by omega) (by omega)
   exact ⟨c,s++[dg1 (n % 10)],by rw [dgs_ge (by omega),e]; rfl,hc⟩
theorem dvN_zeros (s:List UInt8):∀ k,dvN 0 (List.replicate k 48++s)=dvN 0 s
 | 0=>rfl
 | k+1=>by
  rw [List.replicate_succ]
  exact dvN_zeros s k
theorem pad_dv (l:List UInt8) (n:Nat):dv (pad l n)=dv l:=dvN_zeros _ _
theorem pad_D {l:List UInt8} (h:∀ c ∈ l,isD c) (n:Nat):∀ c ∈ pad l n,isD c:=by
 intro c hc
 rcases List.mem_append.1 hc with hc|hc
 ·rw [List.eq_of_mem_replicate hc]; exact ⟨by decide,by decide⟩
 ·exact h c hc
def lim9 (s:List UInt8):List Int :=
 if h:s=[] then [] else (dv (s.drop (s.length - 9)):Int) :: lim9 (s.take (s.length - 9))
termination_by s.length
decreasing_by
 have:0 < s.length:=List.length_pos_iff.2 h
 rw [List.length_take]; omega
theorem lim9_nil:lim9 []=[]:=by rw [lim9,dif_pos rfl]
theorem lim9_app (x y:List UInt8) (hy:y.length=9):lim9 (x++y)=(dv y:Int) :: lim9 x:=by
 have hne:x++y ≠ []:=fun h=>by rw [(List.append_eq_nil_iff.1 h).2] at hy; cases hy
 rw [lim9,dif_neg hne]
 have hl:(x++y).length - 9=x.length:=by rw [List.length_append]; omega
 rw [hl,List.drop_left,List.take_left]
theorem lim9_short {x:List UInt8} (h:x ≠ []) (hx:x.length<=9):lim9 x=[(dv x:Int)]:=by
 rw [lim9,dif_neg h,show x.length - 9=0 by omega,List.drop_zero,List.take_zero,lim9_nil]
theorem lim9_len (s:List UInt8):(lim9 s).length=(s.length+8) / 9:=by
 induction h:s.length using Nat.strongRecOn generalizing s with
 | ind n ih =>
  by_cases hs:s=[]
  ·subst hs; rw [lim9_nil]; simp at h; subst h; rfl
  ·have hp:=List.length_pos_iff.2 hs
   rw [lim9,dif_neg hs,List.length_cons,ih (s.take (s.length - 9)).length (by rw [List.length_take]; omega) _ rfl,List.length_take]
   omega
theorem lim9_mem (s:List UInt8) (hd:∀ c ∈ s,isD c):∀ d ∈ lim9 s,isLb d:=by
 induction h:s.length using Nat.strongRecOn generalizing s with
 | ind n ih =>
  by_cases hs:s=[]
  ·subst hs; rw [lim9_nil]; intro d h; cases h
  ·have hp:=List.length_pos_iff.2 hs
   rw [lim9,dif_neg hs]
   intro d hdm
   rcases List.mem_cons.1 hdm with rfl|hdm
   ·have h1:=dvN_lt (s.drop (s.length - 9)) (fun c hc=>hd c (List.mem_of_mem_drop hc)) 0
    have h2:(s.drop (s.length - 9)).length<=9:=by rw [List.length_drop]; omega
    have h3:10 ^ (s.drop (s.length - 9)).length<=10 ^ 9:=Nat.pow_le_pow_right (by decide) h2
    have h4:dv (s.drop (s.length - 9)) < 1000000000:=by show dvN 0 _ < _; omega
    exact ⟨by omega,by omega⟩
   ·exact ih (s.take (s.length - 9)).length (by rw [List.length_take]; omega) _ (fun c hc=>hd c (List.mem_of_mem_take hc)) rfl d hdm
theorem lim9_fmt {l:List Int} (h:lbs l) (x:List UInt8):∀ k,k<=l.length->lim9 (x++fmtR l k)=l.take k++lim9 x:=by
 intro k
 induction k generalizing x with
 | zero=>intro _; simp [fmtR]
 | succ k ih =>
  intro hk
  have hp:=pad9 h (i:=k) (by omega)
  rw [fmtR,<-List.append_assoc,ih _ (by omega),lim9_app _ _ hp.2,pad_dv,dgs_dv (h k (by omega)).1]
  have e:((ni l k).toNat:Int)=l[k]:=by rw [ni_lt (by omega)]; have:=(h k (by omega)).1; rw [ni_lt (by omega)] at this; omega
  rw [e,<-List.take_append_getElem (by omega:k < l.length),List.append_assoc]
  rfl
theorem trimL_self {l:List Int} (h:l.length=0\/ni l (l.length - 1) ≠ 0):trimL l=l:=by
 unfold trimL
 rcases h with h|h
 ·rw [List.eq_nil_of_length_eq_zero h]; rfl
 ·obtain ⟨n,hn⟩:∃ n,l.length=n+1\/l.length=0:=⟨l.length - 1,by omega⟩
  rcases hn with hn|hn
  ·rw [hn] at h ⊢
   rw [Nat.add_sub_cancel] at h
   rw [trimN,if_neg h,<-hn,List.take_length]
  ·rw [List.eq_nil_of_length_eq_zero hn]; rfl
def numP (s:List UInt8):Prop:=digP s/\s.length<=540/\¬ (1 < s.length/\s.headD 0=48)
open Classical in
noncomputable def pN (s:List UInt8):Option (List Int):=if numP s then some (trimL (lim9 s)) else none
theorem fmtR_D {l:List Int} (h:lbs l):∀ k,k<=l.length->∀ c ∈ fmtR l k,isD c
 | 0,_=>fun c hc=>by cases hc
 | k+1,hk=>fun c hc=>by
  rcases List.mem_append.1 hc with hc|hc
  ·exact pad_D (dgs_D (h k (by omega)).1) 9 c hc
  ·exact fmtR_D h k (by omega) c hc
theorem fmtN_D {l:List Int} (h:lbs l):∀ c ∈ fmtN l,isD c:=by
 intro c hc
 unfold fmtN at hc
 split at hc
 ·rw [List.mem_singleton.1 hc]; exact ⟨by decide,by decide⟩
 ·rcases List.mem_append.1 hc with hc|hc
  ·exact dgs_D (h _ (by omega)).1 c hc
  ·exact fmtR_D h _ (by omega) c hc
theorem pN_fmt {l:List Int} (h:okNP l):pN (fmtN l)=some l:=by
 have hl:lbs l:=fun i hi=>by rw [ni_lt hi]; exact h.1 _ (List.getElem_mem hi)
 by_cases h0:l.length=0
 ·obtain rfl:=List.eq_nil_of_length_eq_zero h0
  have e:fmtN []=[48]:=if_pos rfl
  rw [e]
  have hn:numP [48]:=⟨⟨by simp,fun c hc=>by rw [List.mem_singleton.1 hc]; exact ⟨by decide,by decide⟩⟩,by decide,fun h=>absurd h.1 (by decide)⟩
  rw [pN,if_pos hn,lim9_short (by simp) (by decide)]
  have:(dv [48]:Int)=0:=rfl
  rw [this]; rfl
 ·have e:fmtN l=dgs (ni l (l.length - 1))++fmtR l (l.length - 1):=if_neg h0
  have ht:=hl (l.length - 1) (by omega)
  have h1:1<=ni l (l.length - 1):=by
   have:=h.2.2.resolve_left h0
   omega
  obtain ⟨c,s,hcs,hc⟩:=dgs_head _ _ h1 (Nat.le_refl _)
  have hp:=pad9 hl (i:=l.length - 1) (by omega)
  have hlen:=fmtR_len hl (l.length - 1) (by omega)
  have hn:numP (fmtN l):=by
   refine ⟨⟨by rw [e,hcs]; simp,fmtN_D hl⟩,by rw [e,List.length_append]; have:=h.2.1; omega,fun ⟨_,hh⟩=>?_⟩
   rw [e,hcs] at hh
   exact hc hh
  rw [pN,if_pos hn,e,lim9_fmt hl _ _ (by omega),lim9_short (dgs_ne ht.1) hp.1,dgs_dv ht.1]
  have e2:((ni l (l.length - 1)).toNat:Int)=l[l.length - 1]:=by rw [ni_lt (by omega)]; have:=ht.1; rw [ni_lt (by omega)] at this; omega
  rw [e2,List.take_append_getElem (by omega:l.length - 1 < l.length),show l.length - 1+1=l.length by omega,List.take_length,trimL_self h.2.2]
theorem trimN_last (l:List Int):∀ n,trimN l n=0\/ni l (trimN l n - 1) ≠ 0
 | 0=>.inl rfl
 | n+1=>by
  unfold trimN
  split
  ·exact trimN_last l n
  ·rename_i h; exact .inr h
theorem trimL_last (l:List Int):(trimL l).length=0\/ni (trimL l) ((trimL l).length - 1) ≠ 0:=by
 have hle:=trimN_le l l.length
 have hlen:(trimL l).length=trimN l l.length:=by rw [trimL,List.length_take]; omega
 rcases trimN_last l l.length with h|h
 ·exact .inl (by rw [hlen]; exact h)
 ·by_cases h0:trimN l l.length=0
  ·exact .inl (by rw [hlen]; exact h0)
  ·refine .inr ?_
   rw [hlen,ni_lt (by omega)]
   rw [ni_lt (by omega)] at h
   simpa [trimL] using h
theorem pN_ok {s:List UInt8} {a:List Int} (h:pN s=some a):okNP a/\numP s:=by
 unfold pN at h
 split at h
 ·rename_i hn
  injection h with h
  subst h
  refine ⟨⟨fun d hd=>lim9_mem s hn.1.2 d (List.mem_of_mem_take hd),?_,?_⟩,hn⟩
  ·have h1:=lim9_len s
   have h2:=hn.2.1
   rw [trimL,List.length_take]; omega
  ·exact trimL_last _
 ·cases h
theorem trimmed_run (l:List Int) (w:World) (g cap:Nat) (hc:∀ i,i < l.length->w.cell? ⟨g,i,none⟩=some (.int .i64 (ni l i))) (h1:l.length<=cap) (h2:cap<=maxLen) :
  Calls Tryz.prog 149 #[.slice (some ⟨g,0,none⟩) l.length cap] w fun e w'=>e=.returned (.slice (some ⟨g,0,none⟩) (trimL l).length cap)/\w'=w:=by
 have hml:(l.length:Int)<=9223372036854775807:=by unfold maxLen at h2; omega
 have htl:(trimL l).length=trimN l l.length:=by rw [trimL,List.length_take]; have:=trimN_le l l.length; omega
 rw [htl]
 go_enter Tryz.func149,Tryz.ntmps149
 go_wp2
 go_loopw [3] (fun iv wr=>wr=w/\∃ (k:Nat),iv=.int .i64 (k:Int)/\k<=l.length/\trimN l k=trimN l l.length) (fun iv _=>(Lib.intOf iv).toNat)
 case atStart=>exact ⟨rfl,l.length,rfl,Nat.le_refl _,rfl⟩
 case round =>
  obtain ⟨rfl,k,rfl,hk,ht⟩:=hrel
  by_cases hz:k=0
  ·subst hz
   go_wp2
   go_ret
   exact ⟨by rw [<-ht]; rfl,rfl⟩
  ·obtain ⟨m,rfl⟩:∃ m,k=m+1:=⟨k - 1,by omega⟩
   have hcm:=hc m (by omega)
   have e1:((m+1:Nat):Int) - 1=(m:Int):=by omega
   have e2:(0:Int) < ((m+1:Nat):Int):=by omega
   have e3:(m:Int) < (l.length:Int):=by omega
   clear hc
   by_cases h0:ni l m=0
   ·go_wp2
    refine ⟨⟨trivial,m,rfl,by omega,by rw [<-ht,trimN,if_pos h0]⟩,by simp only [Lib.intOf_int]; omega⟩
   ·go_wp2
    go_ret
    exact ⟨by rw [<-ht,trimN,if_neg h0]; rfl,rfl⟩
theorem trimmed_none (w:World):Calls Tryz.prog 149 #[.slice none 0 0] w fun e w'=>e=.returned (.slice none 0 0)/\w'=w:=by
 go_enter Tryz.func149,Tryz.ntmps149
 go_wp2
 go_loopw [3] (fun iv wr=>wr=w/\iv=.int .i64 0) (fun iv _=>(Lib.intOf iv).toNat)
 case atStart=>exact ⟨rfl,rfl⟩
 case round =>
  obtain ⟨rfl,rfl⟩:=hrel
  go_wp2
  go_ret
  exact ⟨rfl,rfl⟩
theorem trimmed_r (l:List Int):FnR Tryz.prog 149 [] 3 .int l (trimL l) true:=by
 refine ⟨enters_of Tryz.func149 (by kernel_rfl) rfl,rfl,fun w base v fps hone hgr=>?_⟩
 obtain ⟨xs,⟨hxl,ho⟩,hfl,hel⟩:=hgr
 have hsz:(Ty.int).rp.size=1:=rfl
 have htl:(trimL l).length<=l.length:=by rw [trimL,List.length_take]; omega
 have hgb:w.grownBy w v.ownBlock:=⟨rfl,rfl,rfl,Nat.le_refl _,fun k _ _=>rfl⟩
 have hel2:∀ i x,(trimL l)[i]? = some x->∃ f cs,(fps.take (trimL l).length)[i]? = some f/\(Ty.int).rp.rep w cs x f/\∀ j d,cs[j]? = some d->(xs.take (trimL l).length)[i * (Ty.int).rp.size+j]? = some d:=by
  intro i x hi
  have hlt:i < (trimL l).length:=(List.getElem?_eq_some_iff.1 hi).1
  have hi2:l[i]? = some x:=by
   rw [trimL,List.getElem?_take] at hi
   split at hi
   ·exact hi
   ·cases hi
  obtain ⟨f,cs,h1,h2,h3⟩:=hel i x hi2
  refine ⟨f,cs,by rw [List.getElem?_take,if_pos hlt]; exact h1,h2,fun j d hj=>?_⟩
  have hj0:j=0:=by
   have:=(List.getElem?_eq_some_iff.1 hj).1
   have hl:=(Ty.int).rp.len h2
   rw [hsz] at hl; omega
  subst hj0
  rw [hsz,Nat.mul_one,Nat.add_zero,List.getElem?_take,if_pos hlt]
  have:=h3 0 d hj
  rwa [hsz,Nat.mul_one,Nat.add_zero] at this
 rcases ho with ⟨rfl,hn⟩|⟨g,cap,cur,rfl,hbg,hg,hnc,hcm,hcs,htk⟩
 ·obtain rfl:=List.eq_nil_of_length_eq_zero hn
  refine (trimmed_none w).mono ?_
  rintro en w' ⟨rfl,rfl⟩
  exact ⟨_,[],rfl,(fun h=>by cases h),rfl,rfl,⟨[],⟨rfl,.inl ⟨rfl,rfl⟩⟩,rfl,fun i x hi=>by cases i<;>cases hi⟩,hgb⟩
 ·have hc:∀ i,i < l.length->w.cell? ⟨g,i,none⟩=some (.int .i64 (ni l i)):=by
   intro i hi
   obtain ⟨f,cs,_,⟨hcs2,_⟩,h3⟩:=hel i _ (List.getElem?_eq_getElem hi)
   have:=h3 0 _ (by rw [hcs2]; rfl)
   rw [hsz,Nat.mul_one,Nat.add_zero,<-htk,List.getElem?_take] at this
   split at this
   ·rw [ni_lt hi,cell_of_row w g _ cur _ (0,0) hg,<-Array.getElem?_toList]; exact this
   ·cases this
  refine (trimmed_run l w g cap hc hnc hcm).mono ?_
  rintro en w' ⟨rfl,rfl⟩
  refine ⟨_,fps.take (trimL l).length,rfl,(fun h=>by cases h),rfl,rfl,⟨xs.take (trimL l).length,⟨?_,.inr ⟨g,cap,cur,rfl,hbg,hg,by omega,hcm,hcs,?_⟩⟩,by rw [List.length_take]; omega,hel2⟩,hgb⟩
  ·rw [List.length_take,hxl,hsz]; omega
  ·rw [hsz,Nat.mul_one,<-htk,hsz,Nat.mul_one,List.take_take]
   congr 1; omega
def allD (s:List UInt8):Prop:=∀ c ∈ s,isD c
def dTo (s:List UInt8) (k:Nat):Prop:=∀ i,i < k->i < s.length->isD (s.getD i 0)
theorem dTo_all {s:List UInt8}:dTo s s.length ↔ allD s:=by
 constructor
 ·intro h c hc
  obtain ⟨i,hi,rfl⟩:=List.getElem_of_mem hc
  have:=h i hi hi
  rwa [List.getD_eq_getElem?_getD,List.getElem?_eq_getElem hi] at this
 ·intro h i _ hi
  rw [List.getD_eq_getElem?_getD,List.getElem?_eq_getElem hi]
  exact h _ (List.getElem_mem hi)
theorem dTo_step {s:List UInt8} {k:Nat} (h:dTo s k) (hk:isD (s.getD k 0)):dTo s (k+1):=fun i hi hl=>by
 by_cases e:i=k
 ·rw [e]; exact hk
 ·exact h i (by omega) hl
theorem not_all {s:List UInt8} {k:Nat} (hk:k < s.length) (h:¬ isD (s.getD k 0)):¬ allD s:=fun ha=>h (dTo_all.2 ha k hk hk)
theorem areOf_fn (s:List UInt8) (hl:s.length<=1048576):Fn Tryz.prog 171 [⟨.str,bs s⟩,⟨.u8,(48:Int)⟩,⟨.u8,(57:Int)⟩] false [⟨.bool,bdec (allD s)⟩]:=by
 refine fe Tryz.func171 Tryz.ntmps171 Tryz.results171 fun hwf=>?_
 try simp (maxSteps:=9^9) only[go_sem]
 refine LoopG.intro _ _ _ (fun k:Nat=>⟨[(0,.sc (.string (bs s))),(1,.sc (.int .u8 48)),(2,.sc (.int .u8 57)),(9,.sc (.int .i64 s.length)),(10,.sc (.int .i64 k))],[]⟩) (fun k=>k<=s.length/\dTo s k) (fun k=>s.length - k) 0 ?_ ⟨Nat.zero_le _,fun i h=>by omega⟩ ?_
 ·exact WK
 ·rintro k ⟨h1,h2⟩
  try simp (maxSteps:=9^9) only[go_sem]
  refine CondW_dec (fun h4=>?_) (fun h4=>?_)
  ·have hk:k < s.length:=by omega
   try simp (maxSteps:=9^9) only[go_sem]
   repeat refine AI ?_
   refine GuardW_decf (fun h=>?_) (fun h=>?_)
   ·try simp (maxSteps:=9^9) only[go_sem]
    repeat refine AI ?_
    refine CondW_dec (fun h5=>?_) (fun h5=>?_)
    ·rw [bdec_f (not_all hk fun hd=>by have:=hd.2; omega)]
     try simp (maxSteps:=9^9) only[go_sem]
    ·try simp (maxSteps:=9^9) only[go_sem]
     refine ⟨by constructor<;>omega,LoopK.mk (k+1) ?_ ⟨by omega,dTo_step h2 ⟨by omega,by omega⟩⟩ (by omega)⟩
     exact WK
   ·rw [bdec_f (not_all hk fun hd=>by have:=hd.1; omega)]
    try simp (maxSteps:=9^9) only[go_sem]
  ·obtain rfl:k=s.length:=by omega
   rw [bdec_t (dTo_all.1 h2)]
   try simp (maxSteps:=9^9) only[go_sem]
theorem isDigits_fn (s:List UInt8) (hl:s.length<=1048576):Fn Tryz.prog 148 [⟨.str,bs s⟩] false [⟨.bool,bdec (digP s)⟩]:=by
 by_cases h0:s=[]
 ·rw [bdec_f (fun h=>h.1 h0)]
  subst h0
  refine fe Tryz.func148 Tryz.ntmps148 Tryz.results148 fun hwf=>?_
  try simp (maxSteps:=9^9) only[go_sem]
 ·refine fe Tryz.func148 Tryz.ntmps148 Tryz.results148 fun hwf=>?_
  try simp (maxSteps:=9^9) only[go_sem,h0]
  repeat refine AI ?_
  refine cw (areOf_fn s hl) ?_
  try simp (maxSteps:=9^9) only[go_sem]
  by_cases ha:allD s
  ·rw [bdec_t ha,bdec_t ⟨h0,ha⟩]
  ·rw [bdec_f ha,bdec_f fun h=>ha h.2]
theorem isDigitsS_fn (s:List UInt8) (hl:s.length<=1048576):Fn Tryz.prog 141 [⟨.str,bs s⟩] false [⟨.bool,bdec (digP s)⟩]:=by
 refine fe Tryz.func141 Tryz.ntmps141 Tryz.results141 fun hwf=>?_
 try simp (maxSteps:=9^9) only[go_sem]
 refine LoopG.intro _ _ _ (fun k:Nat=>⟨[(0,.sc (.string (bs s))),(3,.sc (.int .i64 k))],[]⟩) (fun k=>k<=s.length/\dTo s k) (fun k=>s.length - k) 0 ?_ ⟨Nat.zero_le _,fun i h=>by omega⟩ ?_
 ·exact WK
 ·rintro k ⟨h1,h2⟩
  try simp (maxSteps:=9^9) only[go_sem]
  refine CondW_dec (fun h4=>?_) (fun h4=>?_)
  ·have hk:k < s.length:=by omega
   try simp (maxSteps:=9^9) only[go_sem]
   repeat refine AI ?_
   refine GuardW_decf (fun h=>?_) (fun h=>?_)
   ·try simp (maxSteps:=9^9) only[go_sem]
    repeat refine AI ?_
    refine CondW_dec (fun h5=>?_) (fun h5=>?_)
    ·rw [bdec_f (fun hd=>not_all hk (fun hd=>by have:=hd.2; omega) hd.2)]
     try simp (maxSteps:=9^9) only[go_sem]
    ·try simp (maxSteps:=9^9) only[go_sem]
     refine ⟨by constructor<;>omega,LoopK.mk (k+1) ?_ ⟨by omega,dTo_step h2 ⟨by omega,by omega⟩⟩ (by omega)⟩
     exact WK
   ·rw [bdec_f (fun hd=>not_all hk (fun hd=>by have:=hd.1; omega) hd.2)]
    try simp (maxSteps:=9^9) only[go_sem]
  ·obtain rfl:k=s.length:=by omega
   have ha:=dTo_all.1 h2
   by_cases h0:s=[]
   ·rw [bdec_f (fun h=>h.1 h0)]
    try simp (maxSteps:=9^9) only[go_sem]
    subst h0; rfl
   ·rw [bdec_t ⟨h0,ha⟩]
    try simp (maxSteps:=9^9) only[go_sem]
    have:=List.length_pos_iff.2 h0
    exact decide_eq_true (by omega)
def rdN (s:List UInt8) (a k:Nat):Nat:=dv ((s.drop a).take k)
theorem rdN_step {s:List UInt8} {a k:Nat} (h:a+k < s.length):rdN s a (k+1)=10 * rdN s a k+((s.getD (a+k) 0).toNat - 48):=by
 have hd:(s.drop a).take (k+1)=(s.drop a).take k++[s.getD (a+k) 0]:=by
  have hl:k < (s.drop a).length:=by rw [List.length_drop]; omega
  rw [<-List.take_append_getElem hl,List.getElem_drop,List.getD_eq_getElem?_getD,List.getElem?_eq_getElem h]; rfl
 rw [rdN,hd,dv,dvN_app]; rfl
theorem rdN_lt {s:List UInt8} (hd:allD s) (a:Nat) {k:Nat} (hk:k<=9):rdN s a k < 1000000000:=by
 have h1:=dvN_lt ((s.drop a).take k) (fun c hc=>hd c (List.mem_of_mem_drop (List.mem_of_mem_take hc))) 0
 have h2:((s.drop a).take k).length<=9:=by rw [List.length_take]; omega
 have h3:10 ^ ((s.drop a).take k).length<=10 ^ 9:=Nat.pow_le_pow_right (by decide) h2
 show dvN 0 _ < _
 omega
def limT (s:List UInt8) (e:Nat):List Int:=lim9 (s.drop e)
theorem lim9_cat (x:List UInt8):∀ (j:Nat) (y:List UInt8),y.length=9 * j->lim9 (x++y)=lim9 y++lim9 x
 | 0,y,h=>by
  obtain rfl:=List.eq_nil_of_length_eq_zero (by omega:y.length=0)
  rw [List.append_nil,lim9_nil]; rfl
 | j+1,y,h=>by
  have e:y=y.take (9 * j)++y.drop (9 * j):=(List.take_append_drop ..).symm
  have h1:(y.take (9 * j)).length=9 * j:=by rw [List.length_take]; omega
  have h2:(y.drop (9 * j)).length=9:=by rw [List.length_drop]; omega
  rw [e,<-List.append_assoc,lim9_app _ _ h2,lim9_app _ _ h2,lim9_cat x j _ h1]
  rfl
theorem limT_step {s:List UInt8} {a e j:Nat} (h1:a < e) (h2:e<=s.length) (h3:e<=a+9) (hj:s.length - e=9 * j):limT s a=limT s e++[(rdN s a (e - a):Int)]:=by
 have e1:s.drop a=(s.drop a).take (e - a)++s.drop e:=by
  have h:=(List.take_append_drop (e - a) (s.drop a)).symm
  rw [List.drop_drop,show a+(e - a)=e by omega] at h
  exact h
 have hl:((s.drop a).take (e - a)).length=e - a:=by rw [List.length_take,List.length_drop]; omega
 rw [limT,e1,lim9_cat _ j _ (by rw [List.length_drop]; exact hj),lim9_short (x:=(s.drop a).take (e - a)) (fun h=>by rw [h] at hl; simp at hl; omega) (by omega)]
 rfl
theorem toI_nth {s:List UInt8} {a e i:Nat} (h:a+i < e) (he:e<=s.length):@nth .u8 (toI (bs ((s.take e).drop a))) i=((s.getD (a+i) 0).toNat:Int):=by
 have hl:i < (toI (bs ((s.take e).drop a))).length:=by rw [toI,bs_list,List.length_map,List.length_drop,List.length_take]; omega
 rw [nth_lt hl]
 simp only [toI,bs_list,List.getElem_map,List.getElem_drop,List.getElem_take]
 rw [List.getD_eq_getElem?_getD,List.getElem?_eq_getElem (by omega)]; rfl
theorem toI_len {s:List UInt8} {a e:Nat} (he:e<=s.length):(toI (bs ((s.take e).drop a))).length=e - a:=by rw [toI,bs_list,List.length_map,List.length_drop,List.length_take]; omega
theorem parseNat_fn (s:List UInt8) (hl:s.length<=1048576):FnT Tryz.prog 122 [⟨.str,bs s⟩] [⟨tInts,(pN s).getD []⟩,⟨.bool,(pN s).isSome⟩]:=by
 by_cases hd:digP s
 ·by_cases hlen:540 < s.length
  ·have e:pN s=none:=if_neg fun h=>by have:=h.2.1; omega
   have h1:(540:Int) < (s.length:Int):=by omega
   rw [e]
   refine fnT_enter tabOK mixes Tryz.func122 rfl rfl _ Tryz.ntmps122 _ Tryz.results122 (by simp) fun hwf=>?_
   try simp (maxSteps:=9^9) only[go_sem]
   repeat refine AI ?_
   refine cw (isDigits_fn s hl) ?_
   try simp (maxSteps:=9^9) only[go_sem]
   rw [bdec_t hd]
   try simp (maxSteps:=9^9) only[go_sem,h1]
   rfl
  ·have h1:¬ (540:Int) < (s.length:Int):=by omega
   have hp:=List.length_pos_iff.2 hd.1
   by_cases hz:1 < s.length/\s.headD 0=48
   ·have e:pN s=none:=if_neg fun h=>h.2.2 hz
    have h2:(1:Int) < (s.length:Int):=by omega
    have h3:((s.getD 0 0).toNat:Int)=48:=by
     obtain ⟨c,t,rfl⟩:=List.exists_cons_of_ne_nil hd.1
     have:c=48:=hz.2
     subst this; rfl
    rw [e]
    refine fnT_enter tabOK mixes Tryz.func122 rfl rfl _ Tryz.ntmps122 _ Tryz.results122 (by simp) fun hwf=>?_
    try simp (maxSteps:=9^9) only[go_sem]
    repeat refine AI ?_
    refine cw (isDigits_fn s hl) ?_
    try simp (maxSteps:=9^9) only[go_sem]
    rw [bdec_t hd]
    try simp (maxSteps:=9^9) only[go_sem,h1,h2]
    refine ⟨by omega,CondW_dec (fun _=>?_) (fun h=>absurd h3 h)⟩
    try simp (maxSteps:=9^9) only[go_sem]
    rfl
   ·have hn:numP s:=⟨hd,by omega,hz⟩
    have e:pN s=some (trimL (lim9 s)):=if_pos hn
    have hlz:limT s s.length=[]:=by rw [limT,List.drop_length,lim9_nil]
    have key:AC Tryz.prog tyOf 59 Code.skip (fun _ _=>True) ⟨[],[]⟩->True:=fun _=>trivial
    clear key
    rw [e]
    by_cases h2:(1:Int) < (s.length:Int)
    ·have h3:¬ ((s.getD 0 0).toNat:Int)=48:=by
      intro h
      obtain ⟨c,t,rfl⟩:=List.exists_cons_of_ne_nil hd.1
      refine hz ⟨by omega,?_⟩
      have hc:c.toNat=48:=by
       have:(((c :: t).getD 0 0).toNat:Int)=(c.toNat:Int):=rfl
       omega
      exact UInt8.toNat_inj.1 hc
     refine fnT_enter tabOK mixes Tryz.func122 rfl rfl _ Tryz.ntmps122 _ Tryz.results122 (by simp) fun hwf=>?_
     try simp (maxSteps:=9^9) only[go_sem]
     repeat refine AI ?_
     refine cw (isDigits_fn s hl) ?_
     try simp (maxSteps:=9^9) only[go_sem]
     rw [bdec_t hd]
     try simp (maxSteps:=9^9) only[go_sem,h1,h2]
     refine ⟨by omega,CondW_dec (fun h=>absurd h h3) (fun _=>?_)⟩
     try simp (maxSteps:=9^9) only[go_sem]
     refine LoopG.intro _ _ _ (fun z:Int=>⟨[(0,.sc (.string (bs s))),(4,.row 4 0),(5,.sc (.int .i64 z))],[(4,.row 3 .int 0 true (limT s z.toNat))]⟩) (fun z=>z<=s.length/\-9<=z/\(0 < z->∃ j,s.length - z.toNat=9 * j)) (fun z=>(z+9).toNat) (s.length:Int) ?_ ⟨by omega,by omega,fun _=>⟨0,by omega⟩⟩ ?_
     ·rw [Int.toNat_natCast,hlz]
      refine Wk.mk [(4,0)] ?_
      try simp (maxSteps:=9^9) only[go_sem]
      try (and_intros<;>first|rfl|omega|exact ⟨_,rfl⟩)
     ·rintro z ⟨g1,g2,g3⟩
      try simp (maxSteps:=9^9) only[go_sem]
      refine CondW_dec (fun h4=>?_) (fun h4=>?_)
      ·obtain ⟨j,hj⟩:=g3 h4
       obtain ⟨a,ha⟩:∃ a:Nat,max 0 (z - 9)=(a:Int):=⟨(max 0 (z - 9)).toNat,by omega⟩
       have ha1:a < z.toNat:=by omega
       have ha2:z.toNat<=a+9:=by omega
       have ha3:z.toNat<=s.length:=by omega
       have ha4:(z - 9).toNat=a:=by omega
       try simp (maxSteps:=9^9) only[go_sem]
       refine ⟨by constructor<;>omega,by omega,by omega,by omega,?_⟩
       rw [ha]
       try simp (maxSteps:=9^9) only[go_sem]
       rw [toI_len ha3]
       refine LoopG.intro _ _ _ (fun i:Nat=>⟨[(0,.sc (.string (bs s))),(4,.row 4 0),(5,.sc (.int .i64 z)),(6,.sc (.int .i64 (rdN s a i))),(40,.sl .u8 (toI (bs ((s.take z.toNat).drop a)))),(41,.sc (.int .i64 ((z.toNat - a:Nat):Int))),(42,.sc (.int .i64 i))],[(4,.row 3 .int 0 true (limT s z.toNat))]⟩) (fun i=>i<=z.toNat - a) (fun i=>z.toNat - a - i) 0 ?_ (Nat.zero_le _) ?_
       ·exact WK
       ·rintro i hi
        try simp (maxSteps:=9^9) only[go_sem]
        refine CondW_dec (fun h5=>?_) (fun h5=>?_)
        ·have hd2:=hd.2 (s.getD (a+i) 0) (by rw [List.getD_eq_getElem?_getD,List.getElem?_eq_getElem (by omega)]; exact List.getElem_mem _)
         have hr:=rdN_lt hd.2 a (k:=i) (by omega)
         have hst:=rdN_step (s:=s) (a:=a) (k:=i) (by omega)
         have hby:@nth .u8 (toI (bs ((s.take z.toNat).drop a))) i=((s.getD (a+i) 0).toNat:Int):=toI_nth (by omega) ha3
         obtain ⟨hd3,hd4⟩:=hd2
         try simp (maxSteps:=9^9) only[go_sem,hby]
         refine ⟨by omega,by rw [toI_len ha3]; omega,by constructor<;>omega,by omega,by omega,by constructor<;>omega,by constructor<;>omega,LoopK.mk (i+1) ?_ (by omega) (by omega)⟩
         rw [show (10 * (rdN s a i:Int)+(((s.getD (a+i) 0).toNat:Int) - 48))=((rdN s a (i+1):Nat):Int) by omega]
         exact WK
        ·obtain rfl:i=z.toNat - a:=by omega
         have hll:=lim9_len (s.drop z.toNat)
         have hll2:(limT s z.toNat).length<=1048576:=by rw [limT,hll,List.length_drop]; omega
         try simp (maxSteps:=9^9) only[go_sem]
         refine ⟨by omega,by omega,by constructor<;>omega,LoopK.mk (z - 9) ?_ ⟨by omega,by omega,fun _=>⟨j+1,by omega⟩⟩ (by omega)⟩
         rw [ha4,limT_step ha1 ha3 ha2 hj]
         exact WK
      ·have hz0:limT s z.toNat=lim9 s:=by rw [show z.toNat=0 by omega,limT,List.drop_zero]
       rw [hz0]
       try simp (maxSteps:=9^9) only[go_sem]
       repeat refine AI ?_
       refine CallW.r (k:=4) (ver:=0) (o:=true) (trimmed_r (lim9 s)) ?_
       try simp (maxSteps:=9^9) only[go_sem]
    ·refine fnT_enter tabOK mixes Tryz.func122 rfl rfl _ Tryz.ntmps122 _ Tryz.results122 (by simp) fun hwf=>?_
     try simp (maxSteps:=9^9) only[go_sem]
     repeat refine AI ?_
     refine cw (isDigits_fn s hl) ?_
     try simp (maxSteps:=9^9) only[go_sem]
     rw [bdec_t hd]
     try simp (maxSteps:=9^9) only[go_sem,h1,h2]
     refine LoopG.intro _ _ _ (fun z:Int=>⟨[(0,.sc (.string (bs s))),(4,.row 4 0),(5,.sc (.int .i64 z))],[(4,.row 3 .int 0 true (limT s z.toNat))]⟩) (fun z=>z<=s.length/\-9<=z/\(0 < z->∃ j,s.length - z.toNat=9 * j)) (fun z=>(z+9).toNat) (s.length:Int) ?_ ⟨by omega,by omega,fun _=>⟨0,by omega⟩⟩ ?_
     ·rw [Int.toNat_natCast,hlz]
      refine Wk.mk [(4,0)] ?_
      try simp (maxSteps:=9^9) only[go_sem]
      try (and_intros<;>first|rfl|omega|exact ⟨_,rfl⟩)
     ·rintro z ⟨g1,g2,g3⟩
      try simp (maxSteps:=9^9) only[go_sem]
      refine CondW_dec (fun h4=>?_) (fun h4=>?_)
      ·obtain ⟨j,hj⟩:=g3 h4
       obtain ⟨a,ha⟩:∃ a:Nat,max 0 (z - 9)=(a:Int):=⟨(max 0 (z - 9)).toNat,by omega⟩
       have ha1:a < z.toNat:=by omega
       have ha2:z.toNat<=a+9:=by omega
       have ha3:z.toNat<=s.length:=by omega
       have ha4:(z - 9).toNat=a:=by omega
       try simp (maxSteps:=9^9) only[go_sem]
       refine ⟨by constructor<;>omega,by omega,by omega,by omega,?_⟩
       rw [ha]
       try simp (maxSteps:=9^9) only[go_sem]
       rw [toI_len ha3]
       refine LoopG.intro _ _ _ (fun i:Nat=>⟨[(0,.sc (.string (bs s))),(4,.row 4 0),(5,.sc (.int .i64 z)),(6,.sc (.int .i64 (rdN s a i))),(40,.sl .u8 (toI (bs ((s.take z.toNat).drop a)))),(41,.sc (.int .i64 ((z.toNat - a:Nat):Int))),(42,.sc (.int .i64 i))],[(4,.row 3 .int 0 true (limT s z.toNat))]⟩) (fun i=>i<=z.toNat - a) (fun i=>z.toNat - a - i) 0 ?_ (Nat.zero_le _) ?_
       ·exact WK
       ·rintro i hi
        try simp (maxSteps:=9^9) only[go_sem]
        refine CondW_dec (fun h5=>?_) (fun h5=>?_)
        ·have hd2:=hd.2 (s.getD (a+i) 0) (by rw [List.getD_eq_getElem?_getD,List.getElem?_eq_getElem (by omega)]; exact List.getElem_mem _)
         have hr:=rdN_lt hd.2 a (k:=i) (by omega)
         have hst:=rdN_step (s:=s) (a:=a) (k:=i) (by omega)
         have hby:@nth .u8 (toI (bs ((s.take z.toNat).drop a))) i=((s.getD (a+i) 0).toNat:Int):=toI_nth (by omega) ha3
         obtain ⟨hd3,hd4⟩:=hd2
         try simp (maxSteps:=9^9) only[go_sem,hby]
         refine ⟨by omega,by rw [toI_len ha3]; omega,by constructor<;>omega,by omega,by omega,by constructor<;>omega,by constructor<;>omega,LoopK.mk (i+1) ?_ (by omega) (by omega)⟩
         rw [show (10 * (rdN s a i:Int)+(((s.getD (a+i) 0).toNat:Int) - 48))=((rdN s a (i+1):Nat):Int) by omega]
         exact WK
        ·obtain rfl:i=z.toNat - a:=by omega
         have hll:=lim9_len (s.drop z.toNat)
         have hll2:(limT s z.toNat).length<=1048576:=by rw [limT,hll,List.length_drop]; omega
         try simp (maxSteps:=9^9) only[go_sem]
         refine ⟨by omega,by omega,by constructor<;>omega,LoopK.mk (z - 9) ?_ ⟨by omega,by omega,fun _=>⟨j+1,by omega⟩⟩ (by omega)⟩
         rw [ha4,limT_step ha1 ha3 ha2 hj]
         exact WK
      ·have hz0:limT s z.toNat=lim9 s:=by rw [show z.toNat=0 by omega,limT,List.drop_zero]
       rw [hz0]
       try simp (maxSteps:=9^9) only[go_sem]
       repeat refine AI ?_
       refine CallW.r (k:=4) (ver:=0) (o:=true) (trimmed_r (lim9 s)) ?_
       try simp (maxSteps:=9^9) only[go_sem]
 ·have e:pN s=none:=if_neg fun h=>hd h.1
  rw [e]
  refine fnT_enter tabOK mixes Tryz.func122 rfl rfl _ Tryz.ntmps122 _ Tryz.results122 (by simp) fun hwf=>?_
  try simp (maxSteps:=9^9) only[go_sem]
  repeat refine AI ?_
  refine cw (isDigits_fn s hl) ?_
  try simp (maxSteps:=9^9) only[go_sem]
  rw [bdec_f hd]
  try simp (maxSteps:=9^9) only[go_sem]
  rfl
theorem parseNatS_fn (s:List UInt8) (hl:s.length<=1048576):Fn Tryz.prog 119 [⟨.str,bs s⟩] false [⟨tInts,(pN s).getD []⟩,⟨.bool,(pN s).isSome⟩]:=by
 by_cases hd:digP s
 ·by_cases hlen:540 < s.length
  ·have e:pN s=none:=if_neg fun h=>by have:=h.2.1; omega
   have h1:(540:Int) < (s.length:Int):=by omega
   rw [e]
   refine fe Tryz.func119 Tryz.ntmps119 Tryz.results119 fun hwf=>?_
   try simp (maxSteps:=9^9) only[go_sem]
   repeat refine AI ?_
   refine cw (isDigitsS_fn s hl) ?_
   try simp (maxSteps:=9^9) only[go_sem]
   rw [bdec_t hd]
   try simp (maxSteps:=9^9) only[go_sem,h1]
   rfl
  ·have h1:¬ (540:Int) < (s.length:Int):=by omega
   have hp:=List.length_pos_iff.2 hd.1
   by_cases hz:1 < s.length/\s.headD 0=48
   ·have e:pN s=none:=if_neg fun h=>h.2.2 hz
    have h2:(1:Int) < (s.length:Int):=by omega
    have h3:((s.getD 0 0).toNat:Int)=48:=by
     obtain ⟨c,t,rfl⟩:=List.exists_cons_of_ne_nil hd.1
     have:c=48:=hz.2
     subst this; rfl
    rw [e]
    refine fe Tryz.func119 Tryz.ntmps119 Tryz.results119 fun hwf=>?_
    try simp (maxSteps:=9^9) only[go_sem]
    repeat refine AI ?_
    refine cw (isDigitsS_fn s hl) ?_
    try simp (maxSteps:=9^9) only[go_sem]
    rw [bdec_t hd]
    try simp (maxSteps:=9^9) only[go_sem,h1,h2]
    refine ⟨by omega,CondW_dec (fun _=>?_) (fun h=>absurd h3 h)⟩
    try simp (maxSteps:=9^9) only[go_sem]
    rfl
   ·have hn:numP s:=⟨hd,by omega,hz⟩
    have e:pN s=some (trimL (lim9 s)):=if_pos hn
    have hlz:limT s s.length=[]:=by rw [limT,List.drop_length,lim9_nil]
    have key:AC Tryz.prog tyOf 59 Code.skip (fun _ _=>True) ⟨[],[]⟩->True:=fun _=>trivial
    clear key
    rw [e]
    by_cases h2:(1:Int) < (s.length:Int)
    ·have h3:¬ ((s.getD 0 0).toNat:Int)=48:=by
      intro h
      obtain ⟨c,t,rfl⟩:=List.exists_cons_of_ne_nil hd.1
      refine hz ⟨by omega,?_⟩
      have hc:c.toNat=48:=by
       have:(((c :: t).getD 0 0).toNat:Int)=(c.toNat:Int):=rfl
       omega
      exact UInt8.toNat_inj.1 hc
     refine fe Tryz.func119 Tryz.ntmps119 Tryz.results119 fun hwf=>?_
     try simp (maxSteps:=9^9) only[go_sem]
     repeat refine AI ?_
     refine cw (isDigitsS_fn s hl) ?_
     try simp (maxSteps:=9^9) only[go_sem]
     rw [bdec_t hd]
     try simp (maxSteps:=9^9) only[go_sem,h1,h2]
     refine ⟨by omega,CondW_dec (fun h=>absurd h h3) (fun _=>?_)⟩
     try simp (maxSteps:=9^9) only[go_sem]
     refine LoopG.intro _ _ _ (fun z:Int=>⟨[(0,.sc (.string (bs s))),(4,.row 4 0),(5,.sc (.int .i64 z))],[(4,.row 3 .int 0 true (limT s z.toNat))]⟩) (fun z=>z<=s.length/\-9<=z/\(0 < z->∃ j,s.length - z.toNat=9 * j)) (fun z=>(z+9).toNat) (s.length:Int) ?_ ⟨by omega,by omega,fun _=>⟨0,by omega⟩⟩ ?_
     ·rw [Int.toNat_natCast,hlz]
      refine Wk.mk [(4,0)] ?_
      try simp (maxSteps:=9^9) only[go_sem]
      try (and_intros<;>first|rfl|omega|exact ⟨_,rfl⟩)
     ·rintro z ⟨g1,g2,g3⟩
      try simp (maxSteps:=9^9) only[go_sem]
      refine CondW_dec (fun h4=>?_) (fun h4=>?_)
      ·obtain ⟨j,hj⟩:=g3 h4
       try simp (maxSteps:=9^9) only[go_sem]
       refine ⟨by constructor<;>omega,?_⟩
       refine CondW_dec (fun h6=>?_) (fun h6=>?_)
       ·obtain ⟨a,ha⟩:∃ a:Nat,a=0:=⟨0,rfl⟩
        have ha1:a < z.toNat:=by omega
        have ha2:z.toNat<=a+9:=by omega
        have ha3:z.toNat<=s.length:=by omega
        have ha4:(z - 9).toNat=a:=by omega
        have h00:(0:Int)=((a+0:Nat):Int):=by omega
        try simp (maxSteps:=9^9) only[go_sem]
        refine LoopG.intro _ _ _ (fun k:Nat=>⟨[(0,.sc (.string (bs s))),(4,.row 4 0),(5,.sc (.int .i64 z)),(7,.sc (.int .i64 (rdN s a k))),(8,.sc (.int .i64 ((a+k:Nat):Int)))],[(4,.row 3 .int 0 true (limT s z.toNat))]⟩) (fun k=>k<=z.toNat - a) (fun k=>z.toNat - a - k) 0 ?_ (Nat.zero_le _) ?_
        ·exact WK
        ·rintro k hk
         try simp (maxSteps:=9^9) only[go_sem]
         refine CondW_dec (fun h5=>?_) (fun h5=>?_)
         ·have hd2:=hd.2 (s.getD (a+k) 0) (by rw [List.getD_eq_getElem?_getD,List.getElem?_eq_getElem (by omega)]; exact List.getElem_mem _)
          have hr:=rdN_lt hd.2 a (k:=k) (by omega)
          have hst:=rdN_step (s:=s) (a:=a) (k:=k) (by omega)
          obtain ⟨hd3,hd4⟩:=hd2
          try simp (maxSteps:=9^9) only[go_sem]
          refine ⟨by constructor<;>omega,by omega,by omega,by constructor<;>omega,by constructor<;>omega,by constructor<;>omega,LoopK.mk (k+1) ?_ (by omega) (by omega)⟩
          rw [show ((rdN s a k:Int) * 10+((s.getD (a+k) 0).toNat:Int) - 48)=((rdN s a (k+1):Nat):Int) by omega,show (((a+k:Nat):Int)+1)=((a+(k+1):Nat):Int) by omega]
          exact WK
         ·obtain rfl:k=z.toNat - a:=by omega
          have hll:=lim9_len (s.drop z.toNat)
          have hll2:(limT s z.toNat).length<=1048576:=by rw [limT,hll,List.length_drop]; omega
          try simp (maxSteps:=9^9) only[go_sem]
          refine ⟨by omega,by omega,by constructor<;>omega,LoopK.mk (z - 9) ?_ ⟨by omega,by omega,fun _=>⟨j+1,by omega⟩⟩ (by omega)⟩
          rw [ha4,limT_step ha1 ha3 ha2 hj]
          exact WK
       ·obtain ⟨a,ha⟩:∃ a:Nat,z - 9=(a:Int):=⟨(z - 9).toNat,by omega⟩
        have ha1:a < z.toNat:=by omega
        have ha2:z.toNat<=a+9:=by omega
        have ha3:z.toNat<=s.length:=by omega
        have ha4:(z - 9).toNat=a:=by omega
        rw [ha]
        try simp (maxSteps:=9^9) only[go_sem]
        refine LoopG.intro _ _ _ (fun k:Nat=>⟨[(0,.sc (.string (bs s))),(4,.row 4 0),(5,.sc (.int .i64 z)),(7,.sc (.int .i64 (rdN s a k))),(8,.sc (.int .i64 ((a+k:Nat):Int)))],[(4,.row 3 .int 0 true (limT s z.toNat))]⟩) (fun k=>k<=z.toNat - a) (fun k=>z.toNat - a - k) 0 ?_ (Nat.zero_le _) ?_
        ·exact WK
        ·rintro k hk
         try simp (maxSteps:=9^9) only[go_sem]
         refine CondW_dec (fun h5=>?_) (fun h5=>?_)
         ·have hd2:=hd.2 (s.getD (a+k) 0) (by rw [List.getD_eq_getElem?_getD,List.getElem?_eq_getElem (by omega)]; exact List.getElem_mem _)
          have hr:=rdN_lt hd.2 a (k:=k) (by omega)
          have hst:=rdN_step (s:=s) (a:=a) (k:=k) (by omega)
          obtain ⟨hd3,hd4⟩:=hd2
          try simp (maxSteps:=9^9) only[go_sem]
          refine ⟨by constructor<;>omega,by omega,by omega,by constructor<;>omega,by constructor<;>omega,by constructor<;>omega,LoopK.mk (k+1) ?_ (by omega) (by omega)⟩
          rw [show ((rdN s a k:Int) * 10+((s.getD (a+k) 0).toNat:Int) - 48)=((rdN s a (k+1):Nat):Int) by omega,show (((a+k:Nat):Int)+1)=((a+(k+1):Nat):Int) by omega]
          exact WK
         ·obtain rfl:k=z.toNat - a:=by omega
          have hll:=lim9_len (s.drop z.toNat)
          have hll2:(limT s z.toNat).length<=1048576:=by rw [limT,hll,List.length_drop]; omega
          try simp (maxSteps:=9^9) only[go_sem]
          refine ⟨by omega,by omega,by constructor<;>omega,LoopK.mk (z - 9) ?_ ⟨by omega,by omega,fun _=>⟨j+1,by omega⟩⟩ (by omega)⟩
          rw [ha4,limT_step ha1 ha3 ha2 hj]
          exact WK
      ·have hz0:limT s z.toNat=lim9 s:=by rw [show z.toNat=0 by omega,limT,List.drop_zero]
       rw [hz0]
       try simp (maxSteps:=9^9) only[go_sem]
       repeat refine AI ?_
       refine cw (l02Trim_fn (lim9 s)) ?_
       try simp (maxSteps:=9^9) only[go_sem]
    ·refine fe Tryz.func119 Tryz.ntmps119 Tryz.results119 fun hwf=>?_
     try simp (maxSteps:=9^9) only[go_sem]
     repeat refine AI ?_
     refine cw (isDigitsS_fn s hl) ?_
     try simp (maxSteps:=9^9) only[go_sem]
     rw [bdec_t hd]
     try simp (maxSteps:=9^9) only[go_sem,h1,h2]
     refine LoopG.intro _ _ _ (fun z:Int=>⟨[(0,.sc (.string (bs s))),(4,.row 4 0),(5,.sc (.int .i64 z))],[(4,.row 3 .int 0 true (limT s z.toNat))]⟩) (fun z=>z<=s.length/\-9<=z/\(0 < z->∃ j,s.length - z.toNat=9 * j)) (fun z=>(z+9).toNat) (s.length:Int) ?_ ⟨by omega,by omega,fun _=>⟨0,by omega⟩⟩ ?_
     ·rw [Int.toNat_natCast,hlz]
      refine Wk.mk [(4,0)] ?_
      try simp (maxSteps:=9^9) only[go_sem]
      try (and_intros<;>first|rfl|omega|exact ⟨_,rfl⟩)
     ·rintro z ⟨g1,g2,g3⟩
      try simp (maxSteps:=9^9) only[go_sem]
      refine CondW_dec (fun h4=>?_) (fun h4=>?_)
      ·obtain ⟨j,hj⟩:=g3 h4
       try simp (maxSteps:=9^9) only[go_sem]
       refine ⟨by constructor<;>omega,?_⟩
       refine CondW_dec (fun h6=>?_) (fun h6=>?_)
       ·obtain ⟨a,ha⟩:∃ a:Nat,a=0:=⟨0,rfl⟩
        have ha1:a < z.toNat:=by omega
        have ha2:z.toNat<=a+9:=by omega
        have ha3:z.toNat<=s.length:=by omega
        have ha4:(z - 9).toNat=a:=by omega
        have h00:(0:Int)=((a+0:Nat):Int):=by omega
        try simp (maxSteps:=9^9) only[go_sem]
        refine LoopG.intro _ _ _ (fun k:Nat=>⟨[(0,.sc (.string (bs s))),(4,.row 4 0),(5,.sc (.int .i64 z)),(7,.sc (.int .i64 (rdN s a k))),(8,.sc (.int .i64 ((a+k:Nat):Int)))],[(4,.row 3 .int 0 true (limT s z.toNat))]⟩) (fun k=>k<=z.toNat - a) (fun k=>z.toNat - a - k) 0 ?_ (Nat.zero_le _) ?_
        ·exact WK
        ·rintro k hk
         try simp (maxSteps:=9^9) only[go_sem]
         refine CondW_dec (fun h5=>?_) (fun h5=>?_)
         ·have hd2:=hd.2 (s.getD (a+k) 0) (by rw [List.getD_eq_getElem?_getD,List.getElem?_eq_getElem (by omega)]; exact List.getElem_mem _)
          have hr:=rdN_lt hd.2 a (k:=k) (by omega)
          have hst:=rdN_step (s:=s) (a:=a) (k:=k) (by omega)
          obtain ⟨hd3,hd4⟩:=hd2
          try simp (maxSteps:=9^9) only[go_sem]
          refine ⟨by constructor<;>omega,by omega,by omega,by constructor<;>omega,by constructor<;>omega,by constructor<;>omega,LoopK.mk (k+1) ?_ (by omega) (by omega)⟩
          rw [show ((rdN s a k:Int) * 10+((s.getD (a+k) 0).toNat:Int) - 48)=((rdN s a (k+1):Nat):Int) by omega,show (((a+k:Nat):Int)+1)=((a+(k+1):Nat):Int) by omega]
          exact WK
         ·obtain rfl:k=z.toNat - a:=by omega
          have hll:=lim9_len (s.drop z.toNat)
          have hll2:(limT s z.toNat).length<=1048576:=by rw [limT,hll,List.length_drop]; omega
          try simp (maxSteps:=9^9) only[go_sem]
          refine ⟨by omega,by omega,by constructor<;>omega,LoopK.mk (z - 9) ?_ ⟨by omega,by omega,fun _=>⟨j+1,by omega⟩⟩ (by omega)⟩
          rw [ha4,limT_step ha1 ha3 ha2 hj]
          exact WK
       ·obtain ⟨a,ha⟩:∃ a:Nat,z - 9=(a:Int):=⟨(z - 9).toNat,by omega⟩
        have ha1:a < z.toNat:=by omega
        have ha2:z.toNat<=a+9:=by omega
        have ha3:z.toNat<=s.length:=by omega
        have ha4:(z - 9).toNat=a:=by omega
        rw [ha]
        try simp (maxSteps:=9^9) only[go_sem]
        refine LoopG.intro _ _ _ (fun k:Nat=>⟨[(0,.sc (.string (bs s))),(4,.row 4 0),(5,.sc (.int .i64 z)),(7,.sc (.int .i64 (rdN s a k))),(8,.sc (.int .i64 ((a+k:Nat):Int)))],[(4,.row 3 .int 0 true (limT s z.toNat))]⟩) (fun k=>k<=z.toNat - a) (fun k=>z.toNat - a - k) 0 ?_ (Nat.zero_le _) ?_
        ·exact WK
        ·rintro k hk
         try simp (maxSteps:=9^9) only[go_sem]
         refine CondW_dec (fun h5=>?_) (fun h5=>?_)
         ·have hd2:=hd.2 (s.getD (a+k) 0) (by rw [List.getD_eq_getElem?_getD,List.getElem?_eq_getElem (by omega)]; exact List.getElem_mem _)
          have hr:=rdN_lt hd.2 a (k:=k) (by omega)
          have hst:=rdN_step (s:=s) (a:=a) (k:=k) (by omega)
          obtain ⟨hd3,hd4⟩:=hd2
          try simp (maxSteps:=9^9) only[go_sem]
          refine ⟨by constructor<;>omega,by omega,by omega,by constructor<;>omega,by constructor<;>omega,by constructor<;>omega,LoopK.mk (k+1) ?_ (by omega) (by omega)⟩
          rw [show ((rdN s a k:Int) * 10+((s.getD (a+k) 0).toNat:Int) - 48)=((rdN s a (k+1):Nat):Int) by omega,show (((a+k:Nat):Int)+1)=((a+(k+1):Nat):Int) by omega]
          exact WK
         ·obtain rfl:k=z.toNat - a:=by omega
          have hll:=lim9_len (s.drop z.toNat)
          have hll2:(limT s z.toNat).length<=1048576:=by rw [limT,hll,List.length_drop]; omega
          try simp (maxSteps:=9^9) only[go_sem]
          refine ⟨by omega,by omega,by constructor<;>omega,LoopK.mk (z - 9) ?_ ⟨by omega,by omega,fun _=>⟨j+1,by omega⟩⟩ (by omega)⟩
          rw [ha4,limT_step ha1 ha3 ha2 hj]
          exact WK
      ·have hz0:limT s z.toNat=lim9 s:=by rw [show z.toNat=0 by omega,limT,List.drop_zero]
       rw [hz0]
       try simp (maxSteps:=9^9) only[go_sem]
       repeat refine AI ?_
       refine cw (l02Trim_fn (lim9 s)) ?_
       try simp (maxSteps:=9^9) only[go_sem]
 ·have e:pN s=none:=if_neg fun h=>hd h.1
  rw [e]
  refine fe Tryz.func119 Tryz.ntmps119 Tryz.results119 fun hwf=>?_
  try simp (maxSteps:=9^9) only[go_sem]
  repeat refine AI ?_
  refine cw (isDigitsS_fn s hl) ?_
  try simp (maxSteps:=9^9) only[go_sem]
  rw [bdec_f hd]
  try simp (maxSteps:=9^9) only[go_sem]
  rfl
def sgP (s:List UInt8):Prop:=∃ t,s=45 :: t
theorem sgP_take (s:List UInt8):bdec (sgP s)=decide (s.take 1=[45]):=by
 cases s with
 | nil=>rw [bdec_f (fun ⟨t,h⟩=>by cases h)]; rfl
 | cons c t =>
  by_cases hc:c=45
  ·subst hc; rw [bdec_t ⟨t,rfl⟩]; rfl
  ·rw [bdec_f (fun ⟨t,h⟩=>hc (List.cons.inj h).1)]
   exact (decide_eq_false fun h=>hc (List.cons.inj h).1).symm
theorem hasPrefix_fn (s:List UInt8) (hl:s.length<=1048576):Fn Tryz.prog 189 [⟨.str,bs s⟩,⟨.str,bs [45]⟩] false [⟨.bool,bdec (sgP s)⟩]:=by
 rw [sgP_take]
 refine fe Tryz.func189 Tryz.ntmps189 Tryz.results189 fun hwf=>?_
 try simp (maxSteps:=9^9) only[go_sem]
 refine GuardW_dec (fun h=>?_) (fun h=>?_)
 ·try simp (maxSteps:=9^9) only[go_sem]
  exact ⟨by decide,h⟩
 ·have h0:s=[]:=by
   cases s with
   | nil=>rfl
   | cons c t=>exact absurd (by rw [List.length_cons]; omega) h
  subst h0
  try simp (maxSteps:=9^9) only[go_sem]
  rfl
theorem cutPrefixL_fn (s:List UInt8) (hl:s.length<=1048576):Fn Tryz.prog 170 [⟨.str,bs s⟩,⟨.str,bs [45]⟩] false [⟨.str,bs (if s.take 1=[45] then s.drop 1 else s)⟩,⟨.bool,bdec (sgP s)⟩]:=by
 rw [sgP_take]
 refine fe Tryz.func170 Tryz.ntmps170 Tryz.results170 fun hwf=>?_
 try simp (maxSteps:=9^9) only[go_sem]
 repeat refine AI ?_
 refine cw (hasPrefix_fn s hl) ?_
 try simp (maxSteps:=9^9) only[go_sem]
 rw [sgP_take]
 refine CondW_not (fun h=>?_) (fun h=>?_)
 ·rw [if_neg h,decide_eq_false h]
  try simp (maxSteps:=9^9) only[go_sem]
 ·rw [if_pos h,decide_eq_true h]
  have h1:1<=s.length:=by
   cases s with
   | nil=>cases h
   | cons c t=>rw [List.length_cons]; omega
  try simp (maxSteps:=9^9) only[go_sem]
  exact ⟨by decide,by omega,Int.le_refl _,by rw [List.take_length]⟩
theorem cutPrefix_fn (s:List UInt8) (hl:s.length<=1048576):Fn Tryz.prog 147 [⟨.str,bs s⟩,⟨.str,bs [45]⟩] false [⟨.str,bs (if s.take 1=[45] then s.drop 1 else s)⟩,⟨.bool,bdec (sgP s)⟩]:=by
 refine fe Tryz.func147 Tryz.ntmps147 Tryz.results147 fun hwf=>?_
 try simp (maxSteps:=9^9) only[go_sem]
 repeat refine AI ?_
 refine cw (cutPrefixL_fn s hl) ?_
 try simp (maxSteps:=9^9) only[go_sem]
def dgP (s:List UInt8):List UInt8:=if s.take 1=[45] then s.drop 1 else s
def bigP (s:List UInt8):Prop:=∃ a,pN (dgP s)=some a/\¬ (sgP s/\a=[])
open Classical in
noncomputable def pB (s:List UInt8):Option DB:=if bigP s then some (bdec (sgP s),(pN (dgP s)).getD []) else none
theorem dgP_len (s:List UInt8):(dgP s).length<=s.length:=by
 unfold dgP; split
 ·rw [List.length_drop]; omega
 ·exact Nat.le_refl _
theorem cutPrefix_at (s:List UInt8) (hl:s.length<=1048576):Fn Tryz.prog 147 [⟨.str,bs s⟩,⟨.str,bs [45]⟩] false [⟨.str,bs (dgP s)⟩,⟨.bool,bdec (sgP s)⟩]:=cutPrefix_fn s hl
theorem parseNat_none {s:List UInt8} (hl:s.length<=1048576) (h:pN s=none):FnT Tryz.prog 122 [⟨.str,bs s⟩] [⟨tInts,[]⟩,⟨.bool,false⟩]:=by
 have:=parseNat_fn s hl
 rw [h] at this
 exact this
theorem parseNat_some {s:List UInt8} {a:List Int} (hl:s.length<=1048576) (h:pN s=some a):FnT Tryz.prog 122 [⟨.str,bs s⟩] [⟨tInts,a⟩,⟨.bool,true⟩]:=by
 have:=parseNat_fn s hl
 rw [h] at this
 exact this
theorem pB_ok {s:List UInt8} {a:List Int} (hp:pN (dgP s)=some a):okB (bdec (sgP s),a)=true ↔ ¬ (sgP s/\a=[]):=by
 rw [okB_iff]
 unfold okBP
 constructor
 ·intro h ⟨h1,h2⟩
  exact h.2 ⟨bdec_t h1,by rw [h2]; rfl⟩
 ·intro h
  refine ⟨(pN_ok hp).1,fun ⟨h1,h2⟩=>h ⟨?_,List.eq_nil_of_length_eq_zero h2⟩⟩
  by_cases hs:sgP s
  ·exact hs
  ·have h1':bdec (sgP s)=true:=h1
   rw [bdec_f hs] at h1'; cases h1'
theorem parseBig_fn (s:List UInt8) (hl:s.length<=1048576):FnT Tryz.prog 121 [⟨.str,bs s⟩] [⟨tBig,(pB s).getD (false,[])⟩,⟨.bool,(pB s).isSome⟩]:=by
 have hdl:=dgP_len s
 cases hp:pN (dgP s) with
 | none =>
  have e:pB s=none:=if_neg fun ⟨a,h,_⟩=>by rw [hp] at h; cases h
  rw [e]
  refine fnT_enter tabOK mixes Tryz.func121 rfl rfl _ Tryz.ntmps121 _ Tryz.results121 (by simp) fun hwf=>?_
  try simp (maxSteps:=9^9) only[go_sem]
  repeat refine AI ?_
  refine cw (cutPrefix_at s hl) ?_
  try simp (maxSteps:=9^9) only[go_sem]
  repeat refine AI ?_
  refine CallW.to (parseNat_none (by omega) hp) ?_
  try simp (maxSteps:=9^9) only[go_sem]
  rfl
 | some a =>
  by_cases hz:sgP s/\a=[]
  ·have e:pB s=none:=if_neg fun ⟨b,h,h2⟩=>by rw [hp] at h; injection h with h; subst h; exact h2 hz
   have ho:okB (bdec (sgP s),a)=false:=by
    cases h:okB (bdec (sgP s),a) with
    | false=>rfl
    | true=>exact absurd hz ((pB_ok hp).1 h)
   rw [e]
   refine fnT_enter tabOK mixes Tryz.func121 rfl rfl _ Tryz.ntmps121 _ Tryz.results121 (by simp) fun hwf=>?_
   try simp (maxSteps:=9^9) only[go_sem]
   repeat refine AI ?_
   refine cw (cutPrefix_at s hl) ?_
   try simp (maxSteps:=9^9) only[go_sem]
   repeat refine AI ?_
   refine CallW.to (parseNat_some (by omega) hp) ?_
   try simp (maxSteps:=9^9) only[go_sem]
   repeat refine AI ?_
   refine CallW.mx (implBigIntOk_fn (bdec (sgP s),a)) ?_
   try simp (maxSteps:=9^9) only[go_sem]
   rw [ho]
   try simp (maxSteps:=9^9) only[go_sem]
   rfl
  ·have e:pB s=some (bdec (sgP s),a):=(if_pos ⟨a,hp,hz⟩).trans (by rw [hp]; rfl)
   have ho:okB (bdec (sgP s),a)=true:=(pB_ok hp).2 hz
   rw [e]
   refine fnT_enter tabOK mixes Tryz.func121 rfl rfl _ Tryz.ntmps121 _ Tryz.results121 (by simp) fun hwf=>?_
   try simp (maxSteps:=9^9) only[go_sem]
   repeat refine AI ?_
   refine cw (cutPrefix_at s hl) ?_
   try simp (maxSteps:=9^9) only[go_sem]
   repeat refine AI ?_
   refine CallW.to (parseNat_some (by omega) hp) ?_
   try simp (maxSteps:=9^9) only[go_sem]
   repeat refine AI ?_
   refine CallW.mx (implBigIntOk_fn (bdec (sgP s),a)) ?_
   try simp (maxSteps:=9^9) only[go_sem]
   rw [ho]
   try simp (maxSteps:=9^9) only[go_sem]
theorem parseNatS_none {s:List UInt8} (hl:s.length<=1048576) (h:pN s=none):Fn Tryz.prog 119 [⟨.str,bs s⟩] false [⟨tInts,[]⟩,⟨.bool,false⟩]:=by
 have:=parseNatS_fn s hl
 rw [h] at this
 exact this
theorem parseNatS_some {s:List UInt8} {a:List Int} (hl:s.length<=1048576) (h:pN s=some a):Fn Tryz.prog 119 [⟨.str,bs s⟩] false [⟨tInts,a⟩,⟨.bool,true⟩]:=by
 have:=parseNatS_fn s hl
 rw [h] at this
 exact this
theorem parseBigS_neg (t:List UInt8) (hl:(45 :: t).length<=1048576):Fn Tryz.prog 118 [⟨.str,bs (45 :: t)⟩] false [⟨tBig,(pB (45 :: t)).getD (false,[])⟩,⟨.bool,(pB (45 :: t)).isSome⟩]:=by
 have hdg:dgP (45 :: t)=t:=if_pos rfl
 have hsg:sgP (45 :: t):=⟨t,rfl⟩
 rw [List.length_cons] at hl
 have hcut:List.drop 1 (List.take (t.length+1) (45 :: t))=t:=by rw [List.take_succ_cons,List.take_length]; rfl
 have hgt:(0:Int) < ((45 :: t).length:Int):=by rw [List.length_cons]; omega
 have hb0:(((45 :: t:List UInt8).getD 0 0).toNat:Int)=45:=rfl
 cases hp:pN t with
 | none =>
  have e:pB (45 :: t)=none:=if_neg fun ⟨a,h,_⟩=>by rw [hdg,hp] at h; cases h
  rw [e]
  refine fe Tryz.func118 Tryz.ntmps118 Tryz.results118 fun hwf=>?_
  try simp (maxSteps:=9^9) only[go_sem]
  refine GuardW_dec (fun h=>?_) (fun h=>absurd hgt h)
  try simp (maxSteps:=9^9) only[go_sem]
  refine ⟨by omega,CondW_dec (fun _=>?_) (fun h=>absurd hb0 h)⟩
  try simp (maxSteps:=9^9) only[go_sem]
  repeat refine AI ?_
  refine cw (parseNatS_none (s:=t) (by omega) hp) ?_
  try simp (maxSteps:=9^9) only[go_sem]
  exact ⟨by rw [List.take_length],rfl⟩
 | some a =>
  by_cases ha:a=[]
  ·have e:pB (45 :: t)=none:=if_neg fun ⟨b,h,h2⟩=>by rw [hdg,hp] at h; injection h with h; subst h; exact h2 ⟨hsg,ha⟩
   subst ha
   rw [e]
   refine fe Tryz.func118 Tryz.ntmps118 Tryz.results118 fun hwf=>?_
   try simp (maxSteps:=9^9) only[go_sem]
   refine GuardW_dec (fun h=>?_) (fun h=>absurd hgt h)
   try simp (maxSteps:=9^9) only[go_sem]
   refine ⟨by omega,CondW_dec (fun _=>?_) (fun h=>absurd hb0 h)⟩
   try simp (maxSteps:=9^9) only[go_sem]
   repeat refine AI ?_
   refine cw (parseNatS_some (s:=t) (by omega) hp) ?_
   try simp (maxSteps:=9^9) only[go_sem]
   refine ⟨by rw [List.take_length],GuardW_dec (fun _=>?_) (fun h=>absurd hb0 h)⟩
   try simp (maxSteps:=9^9) only[go_sem]
   refine CondW_dec (fun _=>?_) (fun h=>absurd rfl h)
   try simp (maxSteps:=9^9) only[go_sem]
   rfl
  ·have e:pB (45 :: t)=some (bdec (sgP (45 :: t)),a):=(if_pos ⟨a,by rw [hdg]; exact hp,fun h=>ha h.2⟩).trans (by rw [hdg,hp]; rfl)
   have hal:¬ (a.length:Int)=0:=fun h=>ha (List.eq_nil_of_length_eq_zero (by omega))
   rw [e,bdec_t hsg]
   refine fe Tryz.func118 Tryz.ntmps118 Tryz.results118 fun hwf=>?_
   try simp (maxSteps:=9^9) only[go_sem]
   refine GuardW_dec (fun h=>?_) (fun h=>absurd hgt h)
   try simp (maxSteps:=9^9) only[go_sem]
   refine ⟨by omega,CondW_dec (fun _=>?_) (fun h=>absurd hb0 h)⟩
   try simp (maxSteps:=9^9) only[go_sem]
   repeat refine AI ?_
   refine cw (parseNatS_some (s:=t) (by omega) hp) ?_
   try simp (maxSteps:=9^9) only[go_sem]
   refine ⟨by rw [List.take_length],GuardW_dec (fun _=>?_) (fun h=>absurd hb0 h)⟩
   try simp (maxSteps:=9^9) only[go_sem,hal]
   exact decide_eq_true hb0
theorem parseBigS_pos (s:List UInt8) (hs:¬ sgP s) (hl:s.length<=1048576):Fn Tryz.prog 118 [⟨.str,bs s⟩] false [⟨tBig,(pB s).getD (false,[])⟩,⟨.bool,(pB s).isSome⟩]:=by
 have ht:¬ s.take 1=[45]:=fun h=>by
  have:=sgP_take s
  rw [bdec_f hs,decide_eq_true h] at this; cases this
 have hdg:dgP s=s:=if_neg ht
 cases hp:pN s with
 | none =>
  have e:pB s=none:=if_neg fun ⟨a,h,_⟩=>by rw [hdg,hp] at h; cases h
  rw [e]
  by_cases h0:(0:Int) < (s.length:Int)
  ·have hb:¬ ((s.getD 0 0).toNat:Int)=45:=fun h=>hs (by
    cases s with
    | nil=>simp at h0
    | cons c t =>
     have hc:c.toNat=45:=by
      have:(((c :: t).getD 0 0).toNat:Int)=(c.toNat:Int):=rfl
      omega
     exact ⟨t,by rw [UInt8.toNat_inj.1 (show c.toNat=(45:UInt8).toNat from hc)]⟩)
   refine fe Tryz.func118 Tryz.ntmps118 Tryz.results118 fun hwf=>?_
   try simp (maxSteps:=9^9) only[go_sem,h0]
   refine CondW_dec (fun h=>absurd h hb) (fun _=>?_)
   try simp (maxSteps:=9^9) only[go_sem]
   refine cw (parseNatS_none (s:=s) (by omega) hp) ?_
   try simp (maxSteps:=9^9) only[go_sem]
   rfl
  ·refine fe Tryz.func118 Tryz.ntmps118 Tryz.results118 fun hwf=>?_
   try simp (maxSteps:=9^9) only[go_sem,h0]
   refine cw (parseNatS_none (s:=s) (by omega) hp) ?_
   try simp (maxSteps:=9^9) only[go_sem]
   rfl
 | some a =>
  have e:pB s=some (bdec (sgP s),a):=(if_pos ⟨a,by rw [hdg]; exact hp,fun h=>hs h.1⟩).trans (by rw [hdg,hp]; rfl)
  rw [e,bdec_f hs]
  by_cases h0:(0:Int) < (s.length:Int)
  ·have hb:¬ ((s.getD 0 0).toNat:Int)=45:=fun h=>hs (by
    cases s with
    | nil=>simp at h0
    | cons c t =>
     have hc:c.toNat=45:=by
      have:(((c :: t).getD 0 0).toNat:Int)=(c.toNat:Int):=rfl
      omega
     exact ⟨t,by rw [UInt8.toNat_inj.1 (show c.toNat=(45:UInt8).toNat from hc)]⟩)
   refine fe Tryz.func118 Tryz.ntmps118 Tryz.results118 fun hwf=>?_
   try simp (maxSteps:=9^9) only[go_sem,h0]
   refine CondW_dec (fun h=>absurd h hb) (fun _=>?_)
   try simp (maxSteps:=9^9) only[go_sem]
   refine cw (parseNatS_some (s:=s) (by omega) hp) ?_
   try simp (maxSteps:=9^9) only[go_sem]
   refine GuardW_dec (fun h=>absurd h hb) (fun _=>?_)
   try simp (maxSteps:=9^9) only[go_sem]
   exact decide_eq_false hb
  ·refine fe Tryz.func118 Tryz.ntmps118 Tryz.results118 fun hwf=>?_
   try simp (maxSteps:=9^9) only[go_sem,h0]
   refine cw (parseNatS_some (s:=s) (by omega) hp) ?_
   try simp (maxSteps:=9^9) only[go_sem]
theorem parseBigS_fn (s:List UInt8) (hl:s.length<=1048576):Fn Tryz.prog 118 [⟨.str,bs s⟩] false [⟨tBig,(pB s).getD (false,[])⟩,⟨.bool,(pB s).isSome⟩]:=by
 by_cases hs:sgP s
 ·obtain ⟨t,rfl⟩:=hs
  exact parseBigS_neg t hl
 ·exact parseBigS_pos s hs hl
end Go.Proofs.YtaeckjmkjhffnaaGreatDoor.DW

namespace Go.Proofs.YtaeckjmkjhffnaaGreatDoor
open Go.RowKit Go.ChangeShapes Go.WideShapes Go.Deep
section
variable {H:Type} (enc:TypeId × Value->H) (P:Program) (w:World)
def Opens {α:Type} (t:TypeId) (A:Rp α):Prop:=∀ (fuel:Nat) (cs:List Value) (x:DataW H × List MemPlace),DataW.trod enc P w 0 (fun _=>true) true fuel t cs=some x->∃ a,Has A w cs a
variable {enc P w}
theorem Opens.int {t:TypeId} (ht:P.underlying t=some (.int .i64)):Opens enc P w t Rp.int:=fun fuel cs x h=>by
 obtain ⟨n,rfl,_,wn⟩:=DataW.trod_int ht h
 have:I64 n:=by simpa [Lit.wf,IntKind.min,IntKind.max,IntKind.signed,IntKind.bits,I64] using wn
 exact ⟨n,[],rfl,rfl,this⟩
theorem Opens.bool {t:TypeId} (ht:P.underlying t=some .bool):Opens enc P w t Rp.bool:=fun fuel cs x h=>by
 obtain ⟨n,rfl,_⟩:=DataW.trod_bool ht h
 exact ⟨n,[],rfl,rfl⟩
theorem Opens.prod {α β:Type} {t:TypeId} {A:Rp α} {B:Rp β} {f0 f1:Field} (ht:P.underlying t=some (.struct #[f0,f1])) (o0:f0.offset=0) (o1:f1.offset=A.size)
  (s0:P.cellsOf f0.type=A.size) (s1:P.cellsOf f1.type=B.size) (s:P.cellsOf t=A.size+B.size) (h0:Opens enc P w f0.type A) (h1:Opens enc P w f1.type B):Opens enc P w t (Rp.prod A B):=fun fuel cs x h=>by
 obtain ⟨xs,n,_,_,hl,hxl,hf⟩:=DataW.trod_struct ht h
 have e0:=hf 0 f0 rfl
 have e1:=hf 1 f1 rfl
 have hxl':xs.length=2:=hxl
 rw [o0,s0,List.getElem?_eq_getElem (by omega)] at e0
 rw [o1,s1,List.getElem?_eq_getElem (by omega)] at e1
 obtain ⟨a,fa,ra⟩:=h0 _ _ _ e0
 obtain ⟨b,fb,rb⟩:=h1 _ _ _ e1
 refine ⟨(a,b),fa++fb,_,_,fa,fb,?_,rfl,ra,rb⟩
 rw [List.drop_zero,List.take_of_length_le (show (cs.drop A.size).length<=B.size by simp; omega),List.take_append_drop]
theorem Opens.slice {α:Type} {t e:TypeId} {A:Rp α} {p:0 < A.size} (ht:P.underlying t=some (.slice e)) (hs:P.cellsOf e=A.size) (h0:Opens enc P w e A):Opens enc P w t (Rp.slice A p):=fun fuel cs x h=>by
 rcases open_slice ht h with ⟨rfl,_⟩|⟨a,len,cap,m,n,D,Pl,rfl,hb,hl,hm,hmm,hx,hi⟩
 ·exact ⟨[],[],none,0,rfl,Nat.le_refl _,Nat.zero_le _,.inl ⟨rfl,rfl⟩⟩
 ·have hcap:m=cap:=by simpa using hmm
  clear hmm hx
  rw [hs] at hi
  by_cases h0l:len=0
  ·subst h0l
   exact ⟨[],[],some a,cap,rfl,Nat.zero_le _,hm,.inl ⟨rfl,rfl⟩⟩
  have hel:∀ i,i < len->∃ y:α × List Nat × List Value,A.rep w y.2.2 y.1 y.2.1/\∀ j v,y.2.2[j]? = some v->w.cell? ((a.add (i * A.size)).add j)=some v:=by
   intro i hil
   obtain ⟨cs',hc,htr⟩:=hi i (by omega)
   obtain ⟨x,f,r⟩:=h0 _ _ _ htr
   obtain ⟨_,hcl,hat⟩:=World.cells?_some hc
   refine ⟨(x,f,cs'),r,fun j v hv=>?_⟩
   have hj:j < cs'.length:=(List.getElem?_eq_some_iff.1 hv).1
   rw [hat j (by omega)]
   exact hv
  have hex:∃ ys:List (α × List Nat × List Value),ys.length=len/\∀ i y,ys[i]? = some y->A.rep w y.2.2 y.1 y.2.1/\∀ j v,y.2.2[j]? = some v->w.cell? ((a.add (i * A.size)).add j)=some v:=by
   have:∀ k,k<=len->∃ ys:List (α × List Nat × List Value),ys.length=k/\∀ i y,ys[i]? = some y->A.rep w y.2.2 y.1 y.2.1/\∀ j v,y.2.2[j]? = some v->w.cell? ((a.add (i * A.size)).add j)=some v:=by
    intro k
    induction k with
    | zero=>intro _; exact ⟨[],rfl,fun i y h=>by simp at h⟩
    | succ k ih =>
     intro hk
     obtain ⟨ys,hyl,hys⟩:=ih (by omega)
     obtain ⟨y,hy⟩:=hel k (by omega)
     refine ⟨ys++[y],by simp [hyl],fun i z hz=>?_⟩
     rcases Nat.lt_or_ge i ys.length with hi|hi
     ·rw [List.getElem?_append_left hi] at hz
      exact hys i z hz
     ·have hik:i=k:=by
       have:=(List.getElem?_eq_some_iff.1 hz).1
       simp at this
       omega
      subst hik
      rw [<-hyl] at hz ⊢
      simp at hz
      subst hz
      exact hyl ▸ hy
   exact this len (Nat.le_refl _)
  obtain ⟨ys,hyl,hys⟩:=hex
  have hspot:a.spot=none:=by
   have hy0:ys[0]? = some (ys[0]'(by omega)):=List.getElem?_eq_getElem (by omega)
   obtain ⟨r,hc⟩:=hys 0 _ hy0
   have hcl:=A.len r
   have h0c:=hc 0 _ (List.getElem?_eq_getElem (by omega))
   simp [Addr.add] at h0c
   exact World.cell?_spot h0c
  obtain ⟨b,off,spot⟩:=a
  simp at hspot
  subst hspot
  refine ⟨ys.map (·.1),b :: (ys.map (·.2.1)).flatten,some ⟨b,off,none⟩,cap,by simp [hyl],by simpa [hyl] using hl,hm,.inr ⟨b,off,ys.map (·.2.1),?_,rfl,rfl,by simp,fun i x hx=>?_⟩⟩
  ·intro hn
   have:ys=[]:=by simpa using hn
   subst this
   simp at hyl
   omega
  ·rw [List.getElem?_map] at hx
   obtain ⟨y,hy,rfl⟩:=Option.map_eq_some_iff.1 hx
   obtain ⟨r,hc⟩:=hys i y hy
   refine ⟨y.2.1,y.2.2,by rw [List.getElem?_map,hy]; rfl,r,fun j v hv=>?_⟩
   have h:=hc j v hv
   rw [Go.Deep.add_add] at h
   have hadd:∀ k,(⟨b,off,none⟩:Addr).add k=⟨b,off+k,none⟩:=fun k=>by
    unfold Addr.add
    by_cases hk:k=0
    ·subst hk; rfl
    ·rw [if_neg hk]
   rw [hadd] at h
   rw [Nat.add_assoc]
   exact h
end
section
variable {H:Type} {enc:TypeId × Value->H} {w:World}
end
end Go.Proofs.YtaeckjmkjhffnaaGreatDoor

namespace Go.Proofs.YtaeckjmkjhffnaaGreatDoor.DW
open Go.RowKit
section
variable {P:Program} {f:FuncId} {fn:Func} {code:Code}
theorem enters (hf:P.funcs[f]? = some fn) (hname:(fn.name == "runtime.NumGoroutine")=false) (hb:fn.body=some code):∀ vs w,(callFunc f vs).run P w=.ok (.enter f vs) w:=by
 intro vs w
 have h1:fn.name ≠ "runtime.NumGoroutine":=by simpa using hname
 simp [callFunc,hf,h1,hb]
theorem drep_int {w:World} {v:Value} {n:Int} {fp:List Nat} (h:DRep w v ⟨.int,n⟩ fp):v=.int .i64 n:=by
 obtain ⟨cs,hp,hr⟩:=h
 rcases hp with ⟨h,_⟩|⟨_,rfl⟩
 ·cases h
 ·exact (List.cons.inj hr.1).1
theorem dres_int {own:Bool} {base:Nat} {S:Nat->Prop} {w:World} {n:Int} (h:I64 n):DRes own base S w (.int .i64 n) ⟨.int,n⟩:=⟨[],⟨[_],.inr ⟨rfl,rfl⟩,rfl,rfl,h⟩,fun _=>ownFp_nil _ _,fun b hb=>by cases hb⟩
theorem dres_bool {own:Bool} {base:Nat} {S:Nat->Prop} {w:World} {n:Bool}:DRes own base S w (.bool n) ⟨.bool,n⟩:=⟨[],⟨[_],.inr ⟨rfl,rfl⟩,rfl,rfl⟩,fun _=>ownFp_nil _ _,fun b hb=>by cases hb⟩
variable (en:∀ vs w,(callFunc f vs).run P w=.ok (.enter f vs) w)
include en
theorem Fn.ofInt {t:Ty} {x:t.den} {n r:Int} (hI:I64 r) (h:∀ w v cs,pk t v cs->Has t.rp w cs x->Calls P f #[v,.int .i64 n] w (Post fun v w'=>v=.int .i64 r/\Below w.heap.size w w')):Fn P f [⟨t,x⟩,⟨.int,n⟩] false [⟨.int,r⟩]:=by
 refine ⟨en,fun w vs S _ ha=>?_⟩
 match vs,ha with
 | [v1,v2],⟨⟨fp1,⟨cs,hp,hr⟩,_⟩,⟨fp2,h2,_⟩,_⟩ =>
  obtain rfl:=drep_int h2
  refine (h w v1 cs hp ⟨fp1,hr⟩).mono fun e w' ⟨v,he,hv,hb⟩=>⟨hb,v,he,?_⟩
  subst hv
  exact dres_int hI
 | [],ha=>exact ha.elim
 | [_],ha=>exact ha.2.elim
 | _ :: _ :: _ :: _,ha=>exact ha.2.2.elim
theorem Fn.ofEq {t:Ty} {x y:t.den} {r:Bool} (h:∀ w v cs u ds,pk t v cs->Has t.rp w cs x->pk t u ds->Has t.rp w ds y->Calls P f #[v,u] w (Post fun v w'=>v=.bool r/\Below w.heap.size w w')):Fn P f [⟨t,x⟩,⟨t,y⟩] false [⟨.bool,r⟩]:=by
 refine ⟨en,fun w vs S _ ha=>?_⟩
 match vs,ha with
 | [v1,v2],⟨⟨fp1,⟨cs,hp,hr⟩,_⟩,⟨fp2,⟨ds,hp2,hr2⟩,_⟩,_⟩ =>
  refine (h w v1 cs v2 ds hp ⟨fp1,hr⟩ hp2 ⟨fp2,hr2⟩).mono fun e w' ⟨v,he,hv,hb⟩=>⟨hb,v,he,?_⟩
  subst hv
  exact dres_bool
 | [],ha=>exact ha.elim
 | [_],ha=>exact ha.2.elim
 | _ :: _ :: _ :: _,ha=>exact ha.2.2.elim
theorem FnM.of {t:Ty} {x x':t.den} {k r:Int} (hI:I64 r) (h:∀ w v cs fp,pk t v cs->t.rp.rep w cs x fp->fp.Nodup->(∀ b ∈ fp,Free w b)->Calls P f #[v,.int .i64 k] w (Post (MarkPost t.rp cs x' fp r w))):FnM P f t x x' k r:=⟨en,hI,h⟩
end
theorem pk_one {t:Ty} {v:Value} {cs:List Value} (ht:t.isAgg=false) (h:pk t v cs):cs=[v]:=by
 rcases h with ⟨h,_⟩|⟨_,h⟩
 ·rw [ht] at h; cases h
 ·exact h
theorem small_I64 {n:Int} (h0:0<=n) (h1:n<=1073741824):I64 n:=by constructor<;>omega
@[go_sem] theorem ex_row {i ver:Nat} {p:Nat->Prop}:(∃ k,AV.row i ver=AV.row k ver/\p k)=p i:=propext ⟨fun ⟨k,e,h⟩=>by injection e with e; exact e ▸ h,fun h=>⟨i,rfl,h⟩⟩
@[go_sem] theorem eqb_self {α:Type} (a:α):eqb a a=true:=eqb_true rfl
end Go.Proofs.YtaeckjmkjhffnaaGreatDoor.DW

namespace Go.Proofs.YtaeckjmkjhffnaaGreatDoor
open Go.RowKit
end Go.Proofs.YtaeckjmkjhffnaaGreatDoor

namespace Go.Proofs.YtaeckjmkjhffnaaGreatDoor
open Go.RowKit
set_option maxHeartbeats 400000 in
theorem eqIntS_any (va vb:Value) (a b:DIntS) (w:World) (ha:Has RIntS w [va] a) (hb:Has RIntS w [vb] b) :
  Calls Tryz.prog 116 #[va,vb] w (Post (EqPost a b w)):=by
 obtain ⟨aa,ca,rfl,la,ma,ga⟩:=ha.elems
 obtain ⟨ab,cb,rfl,lb,mb,gb⟩:=hb.elems
 unfold maxLen at ma mb
 have HA:=Lib.hid ga; have HB:=Lib.hid gb; clear ga gb ha hb
 by_cases hl:a.length=b.length
 rotate_left
 ·have hn:((a.length:Int) != (b.length:Int))=true:=by simp; omega
  have HL:=Lib.hid hl; clear hl
  go_enter Tryz.func116,Tryz.ntmps116
  go_wp2
  go_ret
  exact ⟨_,rfl,congrArg Value.bool (eqb_false fun h=>HL.out (by rw [h])).symm,Below.refl _ _⟩
 have hn:((a.length:Int) != (b.length:Int))=false:=by simp; omega
 have HL:=Lib.hid hl; clear hl
 go_enter Tryz.func116,Tryz.ntmps116
 go_wp2
 go_loopw [5] (fun i wr=>∃ k:Nat,k<=a.length/\i=.int .i64 k/\a.take k=b.take k/\Below w.heap.size w wr) (fun i _=>a.length - (intOf i).toNat)
 case atStart=>exact ⟨0,Nat.zero_le _,rfl,rfl,Below.refl _ _⟩
 case round =>
  obtain ⟨k,hk,rfl,htk,hbw⟩:=hrel
  have HT:=Lib.hid htk; clear htk
  by_cases hlt:k < a.length
  rotate_left
  ·go_wp2
   go_ret
   exact ⟨_,rfl,congrArg Value.bool (eqb_true (by have h1:=HT.out; have h2:=HL.out; rwa [List.take_of_length_le (by omega),List.take_of_length_le (by omega)] at h1)).symm,hbw⟩
  have hlt':k < b.length:=by have:=HL.out; omega
  obtain ⟨b1,o1,cs1,rfl,hbl,hx,hcs⟩:=HA.out k hlt
  obtain ⟨b2,o2,cs2,rfl,hbl2,hy,hds⟩:=HB.out k hlt'
  obtain ⟨c0,rfl⟩:=list1 hx.len
  obtain ⟨d0,rfl⟩:=list1 hy.len
  obtain rfl:=hx.int.1
  obtain rfl:=hy.int.1
  have g0:wr.cell? ⟨b1,o1+k,none⟩=some (.int .i64 a[k]):=(hbw.cell (p:=⟨b1,_,none⟩) hbl).trans (by simpa [Rp.int] using hcs 0 _ rfl)
  have e0:wr.cell? ⟨b2,o2+k,none⟩=some (.int .i64 b[k]):=(hbw.cell (p:=⟨b2,_,none⟩) hbl2).trans (by simpa [Rp.int] using hds 0 _ rfl)
  clear hcs hds hx hy
  by_cases hab:a[k]=b[k]
  ·have hn:(a[k] != b[k])=false:=by simp [hab]
   have HAB:=Lib.hid hab; clear hab
   go_wp2
   go_quiet (fail)
   go_wp2
   go_roundw
   case rel=>exact ⟨k+1,by omega,by go_num,by rw [List.take_succ_eq_append_getElem hlt,List.take_succ_eq_append_getElem hlt',HT.out,HAB.out],hbw.drewN _⟩
   case measure=>simp [intOf]; omega
  ·have hn:(a[k] != b[k])=true:=by simp [hab]
   have HAB:=Lib.hid hab; clear hab
   go_wp2
   go_quiet (fail)
   go_wp2
   go_ret
   exact ⟨_,rfl,congrArg Value.bool (eqb_false fun h=>HAB.out (by subst h; rfl)).symm,hbw.drewN _⟩
set_option maxHeartbeats 400000 in
theorem eqBigInt_any (c0 c1 d0 d1:Value) (x y:DBigInt) (w:World) (hx:Has RBigInt w [c0,c1] x) (hy:Has RBigInt w [d0,d1] y) :
  Calls Tryz.prog 115 #[.agg #[c0,c1],.agg #[d0,d1]] w (Post (EqPost x y w)):=by
 obtain ⟨hx0,hx1⟩:=hx.split [c0] [c1] rfl
 obtain ⟨hy0,hy1⟩:=hy.split [d0] [d1] rfl
 obtain rfl:=hx0.bool
 obtain rfl:=hy0.bool
 have HX1:=Lib.hid hx1
 have HY1:=Lib.hid hy1
 clear hx hy hx0 hx1 hy0 hy1
 by_cases he0:x.1=y.1
 rotate_left
 ·have hn:(!(x.1 == y.1))=true:=by simp [he0]
  have HN:=Lib.hid he0; clear he0
  go_enter Tryz.func115,Tryz.ntmps115
  go_wp2
  go_ret
  exact ⟨_,rfl,congrArg Value.bool (eqb_false fun h=>HN.out (by rw [h])).symm,((Below.refl w.heap.size w).alloc (Nat.le_refl _) _).alloc (by simp) _⟩
 have hn0:(!(x.1 == y.1))=false:=by simp [he0]
 have HE0:=Lib.hid he0; clear he0
 go_enter Tryz.func115,Tryz.ntmps115
 have hb0:=((Below.refl w.heap.size w).alloc (Nat.le_refl _) (Obj.cells #[.bool x.1,c1] 33)).alloc (by simp) (Obj.cells #[.bool y.1,d1] 33)
 go_wp2_with fail
 refine (eqIntS_any _ _ _ _ _ (HX1.out.below hb0) (HY1.out.below hb0)).mono ?_
 rintro e w1 ⟨v,rfl,rfl,hbx1⟩
 have hb1:=Below.up hb0 hbx1 hb0.size
 by_cases he1:x.2=y.2
 rotate_left
 ·rw [eqb_false he1]
  have HN:=Lib.hid he1; clear he1
  go_wp2
  go_ret
  exact ⟨_,rfl,congrArg Value.bool (eqb_false fun h=>HN.out (by rw [h])).symm,hb1⟩
 rw [eqb_true he1]
 have HE1:=Lib.hid he1; clear he1
 go_wp2
 go_ret
 exact ⟨_,rfl,congrArg Value.bool (eqb_true (Prod.ext HE0.out (HE1.out))).symm,hb1⟩
set_option maxHeartbeats 400000 in
theorem eqRat_any (c0 c1 c2 d0 d1 d2:Value) (x y:DRat) (w:World) (hx:Has RRat w [c0,c1,c2] x) (hy:Has RRat w [d0,d1,d2] y) :
  Calls Tryz.prog 85 #[.agg #[c0,c1,c2],.agg #[d0,d1,d2]] w (Post (EqPost x y w)):=by
 obtain ⟨hx0,hx1⟩:=hx.split [c0,c1] [c2] rfl
 obtain ⟨hy0,hy1⟩:=hy.split [d0,d1] [d2] rfl
 have HX0:=Lib.hid hx0
 have HY0:=Lib.hid hy0
 have HX1:=Lib.hid hx1
 have HY1:=Lib.hid hy1
 clear hx hy hx0 hx1 hy0 hy1
 go_enter Tryz.func85,Tryz.ntmps85
 have hb0:=((Below.refl w.heap.size w).alloc (Nat.le_refl _) (Obj.cells #[c0,c1,c2] 35)).alloc (by simp) (Obj.cells #[d0,d1,d2] 35)
 go_wp2_with fail
 refine (eqBigInt_any _ _ _ _ _ _ _ (HX0.out.below hb0) (HY0.out.below hb0)).mono ?_
 rintro e w1 ⟨v,rfl,rfl,hbx1⟩
 have hb1:=Below.up hb0 hbx1 hb0.size
 obtain ⟨hc1,hf1⟩:=bcell hbx1
 by_cases he0:x.1=y.1
 rotate_left
 ·rw [eqb_false he0]
  have HN:=Lib.hid he0; clear he0
  go_wp2
  go_ret
  exact ⟨_,rfl,congrArg Value.bool (eqb_false fun h=>HN.out (by rw [h])).symm,hb1⟩
 rw [eqb_true he0]
 have HE0:=Lib.hid he0; clear he0
 go_wp2_with fail
 refine (eqIntS_any _ _ _ _ _ (HX1.out.below hb1) (HY1.out.below hb1)).mono ?_
 rintro e w2 ⟨v,rfl,rfl,hbx2⟩
 have hb2:=Below.up hb1 hbx2 hb1.size
 by_cases he1:x.2=y.2
 rotate_left
 ·rw [eqb_false he1]
  have HN:=Lib.hid he1; clear he1
  go_wp2
  go_ret
  exact ⟨_,rfl,congrArg Value.bool (eqb_false fun h=>HN.out (by rw [h])).symm,hb2⟩
 rw [eqb_true he1]
 have HE1:=Lib.hid he1; clear he1
 go_wp2
 go_ret
 exact ⟨_,rfl,congrArg Value.bool (eqb_true (Prod.ext HE0.out (HE1.out))).symm,hb2⟩
set_option maxHeartbeats 400000 in
theorem eqPoint_any (c0 c1 c2 c3 c4 c5 d0 d1 d2 d3 d4 d5:Value) (x y:DPoint) (w:World) (hx:Has RPoint w [c0,c1,c2,c3,c4,c5] x) (hy:Has RPoint w [d0,d1,d2,d3,d4,d5] y) :
  Calls Tryz.prog 51 #[.agg #[c0,c1,c2,c3,c4,c5],.agg #[d0,d1,d2,d3,d4,d5]] w (Post (EqPost x y w)):=by
 obtain ⟨hx0,hx1⟩:=hx.split [c0,c1,c2] [c3,c4,c5] rfl
 obtain ⟨hy0,hy1⟩:=hy.split [d0,d1,d2] [d3,d4,d5] rfl
 have HX0:=Lib.hid hx0
 have HY0:=Lib.hid hy0
 have HX1:=Lib.hid hx1
 have HY1:=Lib.hid hy1
 clear hx hy hx0 hx1 hy0 hy1
 go_enter Tryz.func51,Tryz.ntmps51
 have hb0:=((Below.refl w.heap.size w).alloc (Nat.le_refl _) (Obj.cells #[c0,c1,c2,c3,c4,c5] 37)).alloc (by simp) (Obj.cells #[d0,d1,d2,d3,d4,d5] 37)
 go_wp2_with fail
 refine (eqRat_any _ _ _ _ _ _ _ _ _ (HX0.out.below hb0) (HY0.out.below hb0)).mono ?_
 rintro e w1 ⟨v,rfl,rfl,hbx1⟩
 have hb1:=Below.up hb0 hbx1 hb0.size
 obtain ⟨hc1,hf1⟩:=bcell hbx1
 by_cases he0:x.1=y.1
 rotate_left
 ·rw [eqb_false he0]
  have HN:=Lib.hid he0; clear he0
  go_wp2
  go_ret
  exact ⟨_,rfl,congrArg Value.bool (eqb_false fun h=>HN.out (by rw [h])).symm,hb1⟩
 rw [eqb_true he0]
 have HE0:=Lib.hid he0; clear he0
 go_wp2_with fail
 refine (eqRat_any _ _ _ _ _ _ _ _ _ (HX1.out.below hb1) (HY1.out.below hb1)).mono ?_
 rintro e w2 ⟨v,rfl,rfl,hbx2⟩
 have hb2:=Below.up hb1 hbx2 hb1.size
 by_cases he1:x.2=y.2
 rotate_left
 ·rw [eqb_false he1]
  have HN:=Lib.hid he1; clear he1
  go_wp2
  go_ret
  exact ⟨_,rfl,congrArg Value.bool (eqb_false fun h=>HN.out (by rw [h])).symm,hb2⟩
 rw [eqb_true he1]
 have HE1:=Lib.hid he1; clear he1
 go_wp2
 go_ret
 exact ⟨_,rfl,congrArg Value.bool (eqb_true (Prod.ext HE0.out (HE1.out))).symm,hb2⟩
set_option maxHeartbeats 400000 in
theorem eqStep_any (c0 c1 c2 c3 c4 c5 c6 d0 d1 d2 d3 d4 d5 d6:Value) (x y:DStep) (w:World) (hx:Has RStep w [c0,c1,c2,c3,c4,c5,c6] x) (hy:Has RStep w [d0,d1,d2,d3,d4,d5,d6] y) :
  Calls Tryz.prog 19 #[.agg #[c0,c1,c2,c3,c4,c5,c6],.agg #[d0,d1,d2,d3,d4,d5,d6]] w (Post (EqPost x y w)):=by
 obtain ⟨hx0,hx1⟩:=hx.split [c0] [c1,c2,c3,c4,c5,c6] rfl
 obtain ⟨hy0,hy1⟩:=hy.split [d0] [d1,d2,d3,d4,d5,d6] rfl
 obtain rfl:=hx0.int.1
 obtain rfl:=hy0.int.1
 have HX1:=Lib.hid hx1
 have HY1:=Lib.hid hy1
 clear hx hy hx0 hx1 hy0 hy1
 by_cases he0:x.1=y.1
 rotate_left
 ·have hn:(x.1 != y.1)=true:=by simp [he0]
  have HN:=Lib.hid he0; clear he0
  go_enter Tryz.func19,Tryz.ntmps19
  go_wp2
  go_ret
  exact ⟨_,rfl,congrArg Value.bool (eqb_false fun h=>HN.out (by rw [h])).symm,((Below.refl w.heap.size w).alloc (Nat.le_refl _) _).alloc (by simp) _⟩
 have hn0:(x.1 != y.1)=false:=by simp [he0]
 have HE0:=Lib.hid he0; clear he0
 go_enter Tryz.func19,Tryz.ntmps19
 have hb0:=((Below.refl w.heap.size w).alloc (Nat.le_refl _) (Obj.cells #[.int .i64 x.1,c1,c2,c3,c4,c5,c6] 48)).alloc (by simp) (Obj.cells #[.int .i64 y.1,d1,d2,d3,d4,d5,d6] 48)
 go_wp2_with fail
 refine (eqPoint_any _ _ _ _ _ _ _ _ _ _ _ _ _ _ _ (HX1.out.below hb0) (HY1.out.below hb0)).mono ?_
 rintro e w1 ⟨v,rfl,rfl,hbx1⟩
 have hb1:=Below.up hb0 hbx1 hb0.size
 by_cases he1:x.2=y.2
 rotate_left
 ·rw [eqb_false he1]
  have HN:=Lib.hid he1; clear he1
  go_wp2
  go_ret
  exact ⟨_,rfl,congrArg Value.bool (eqb_false fun h=>HN.out (by rw [h])).symm,hb1⟩
 rw [eqb_true he1]
 have HE1:=Lib.hid he1; clear he1
 go_wp2
 go_ret
 exact ⟨_,rfl,congrArg Value.bool (eqb_true (Prod.ext HE0.out (HE1.out))).symm,hb1⟩
set_option maxHeartbeats 400000 in
theorem eqStepS_any (va vb:Value) (a b:DStepS) (w:World) (ha:Has RStepS w [va] a) (hb:Has RStepS w [vb] b) :
  Calls Tryz.prog 24 #[va,vb] w (Post (EqPost a b w)):=by
 obtain ⟨aa,ca,rfl,la,ma,ga⟩:=ha.elems
 obtain ⟨ab,cb,rfl,lb,mb,gb⟩:=hb.elems
 unfold maxLen at ma mb
 have HA:=Lib.hid ga; have HB:=Lib.hid gb; clear ga gb ha hb
 by_cases hl:a.length=b.length
 rotate_left
 ·have hn:((a.length:Int) != (b.length:Int))=true:=by simp; omega
  have HL:=Lib.hid hl; clear hl
  go_enter Tryz.func24,Tryz.ntmps24
  go_wp2
  go_ret
  exact ⟨_,rfl,congrArg Value.bool (eqb_false fun h=>HL.out (by rw [h])).symm,Below.refl _ _⟩
 have hn:((a.length:Int) != (b.length:Int))=false:=by simp; omega
 have HL:=Lib.hid hl; clear hl
 go_enter Tryz.func24,Tryz.ntmps24
 go_wp2
 go_loopw [5] (fun i wr=>∃ k:Nat,k<=a.length/\i=.int .i64 k/\a.take k=b.take k/\Below w.heap.size w wr) (fun i _=>a.length - (intOf i).toNat)
 case atStart=>exact ⟨0,Nat.zero_le _,rfl,rfl,Below.refl _ _⟩
 case round =>
  obtain ⟨k,hk,rfl,htk,hbw⟩:=hrel
  have HT:=Lib.hid htk; clear htk
  by_cases hlt:k < a.length
  rotate_left
  ·go_wp2
   go_ret
   exact ⟨_,rfl,congrArg Value.bool (eqb_true (by have h1:=HT.out; have h2:=HL.out; rwa [List.take_of_length_le (by omega),List.take_of_length_le (by omega)] at h1)).symm,hbw⟩
  have hlt':k < b.length:=by have:=HL.out; omega
  obtain ⟨b1,o1,cs1,rfl,hbl,hx,hcs⟩:=HA.out k hlt
  obtain ⟨b2,o2,cs2,rfl,hbl2,hy,hds⟩:=HB.out k hlt'
  obtain ⟨c0,c1,c2,c3,c4,c5,c6,rfl⟩:=list7 hx.len
  obtain ⟨d0,d1,d2,d3,d4,d5,d6,rfl⟩:=list7 hy.len
  have g0:wr.cell? ⟨b1,o1+k * 7,none⟩=some c0:=(hbw.cell (p:=⟨b1,_,none⟩) hbl).trans (hcs 0 _ rfl)
  have g1:wr.cell? ⟨b1,o1+k * 7+1,none⟩=some c1:=(hbw.cell (p:=⟨b1,_,none⟩) hbl).trans (hcs 1 _ rfl)
  have g2:wr.cell? ⟨b1,o1+k * 7+2,none⟩=some c2:=(hbw.cell (p:=⟨b1,_,none⟩) hbl).trans (hcs 2 _ rfl)
  have g3:wr.cell? ⟨b1,o1+k * 7+3,none⟩=some c3:=(hbw.cell (p:=⟨b1,_,none⟩) hbl).trans (hcs 3 _ rfl)
  have g4:wr.cell? ⟨b1,o1+k * 7+4,none⟩=some c4:=(hbw.cell (p:=⟨b1,_,none⟩) hbl).trans (hcs 4 _ rfl)
  have g5:wr.cell? ⟨b1,o1+k * 7+5,none⟩=some c5:=(hbw.cell (p:=⟨b1,_,none⟩) hbl).trans (hcs 5 _ rfl)
  have g6:wr.cell? ⟨b1,o1+k * 7+6,none⟩=some c6:=(hbw.cell (p:=⟨b1,_,none⟩) hbl).trans (hcs 6 _ rfl)
  have e0:wr.cell? ⟨b2,o2+k * 7,none⟩=some d0:=(hbw.cell (p:=⟨b2,_,none⟩) hbl2).trans (hds 0 _ rfl)
  have e1:wr.cell? ⟨b2,o2+k * 7+1,none⟩=some d1:=(hbw.cell (p:=⟨b2,_,none⟩) hbl2).trans (hds 1 _ rfl)
  have e2:wr.cell? ⟨b2,o2+k * 7+2,none⟩=some d2:=(hbw.cell (p:=⟨b2,_,none⟩) hbl2).trans (hds 2 _ rfl)
  have e3:wr.cell? ⟨b2,o2+k * 7+3,none⟩=some d3:=(hbw.cell (p:=⟨b2,_,none⟩) hbl2).trans (hds 3 _ rfl)
  have e4:wr.cell? ⟨b2,o2+k * 7+4,none⟩=some d4:=(hbw.cell (p:=⟨b2,_,none⟩) hbl2).trans (hds 4 _ rfl)
  have e5:wr.cell? ⟨b2,o2+k * 7+5,none⟩=some d5:=(hbw.cell (p:=⟨b2,_,none⟩) hbl2).trans (hds 5 _ rfl)
  have e6:wr.cell? ⟨b2,o2+k * 7+6,none⟩=some d6:=(hbw.cell (p:=⟨b2,_,none⟩) hbl2).trans (hds 6 _ rfl)
  have HX:=Lib.hid hx; have HY:=Lib.hid hy
  clear hcs hds hx hy
  go_wp2
  go_still_tail 8,(by kernel_rfl)
  go_wp2_with fail
  refine (eqStep_any _ _ _ _ _ _ _ _ _ _ _ _ _ _ _ _ _ (HX.out.below (hbw.drew)) (HY.out.below (hbw.drew))).mono ?_
  rintro e w1 ⟨v,rfl,rfl,hbx⟩
  have hb1:=Below.up hbw.drew hbx hbw.size
  by_cases hab:a[k]=b[k]
  ·rw [eqb_true hab]
   have HAB:=Lib.hid hab; clear hab
   go_wp2
   go_roundw
   case rel=>exact ⟨k+1,by omega,by go_num,by rw [List.take_succ_eq_append_getElem hlt,List.take_succ_eq_append_getElem hlt',HT.out,HAB.out],hb1⟩
   case measure=>simp [intOf]; omega
  ·rw [eqb_false hab]
   have HAB:=Lib.hid hab; clear hab
   go_wp2
   go_ret
   exact ⟨_,rfl,congrArg Value.bool (eqb_false fun h=>HAB.out (by subst h; rfl)).symm,hb1⟩
set_option maxHeartbeats 400000 in
theorem markIntS_any (v:Value) (x:DIntS) (k:Int) (fp:List Nat) (w:World) (hx:RIntS.rep w [v] x fp) (hn:fp.Nodup) (hf:∀ b ∈ fp,Free w b) (h0:0<=k) (h1:k+x.length<=1073741824) :
  Calls Tryz.prog 75 #[v,.int .i64 k] w (Post (MarkPost RIntS [v] (mkIntS x k) fp (k+x.length) w)):=by
 obtain ⟨ad,c,hv,hlc,hm,hh⟩:=hx
 injection hv with hv
 subst hv
 unfold maxLen at hm
 rcases hh with ⟨rfl,rfl⟩|⟨b,off,fps,hl,rfl,rfl,he⟩
 ·go_enter Tryz.func75,Tryz.ntmps75
  go_wp2
  go_loopw [1,5] (fun kk i wr=>i=.int .i64 0/\kk=.int .i64 k/\wr=w) (fun _ _ _=>0)
  case atStart=>exact ⟨rfl,rfl,rfl⟩
  case round =>
   obtain ⟨rfl,rfl,rfl⟩:=hrel
   go_wp2
   go_ret
   exact ⟨_,rfl,congrArg (Value.int .i64) (by simp),⟨ad,c,rfl,hlc,by unfold maxLen; omega,.inl ⟨rfl,rfl⟩⟩,Upto.refl _ _⟩
 have HN:=Lib.hid hn; have HF:=Lib.hid hf; have HE:=Lib.hid he; have HL:=Lib.hid hl; clear hn hf he hl
 go_enter Tryz.func75,Tryz.ntmps75
 go_wp2
 go_loopw [1,5] (fun kk i wr=>∃ j:Nat,j<=x.length/\i=.int .i64 j/\kk=.int .i64 (k+j)/\Elems Rp.int wr b off (mkIntS (x.take j) k++x.drop j) fps/\Upto (b :: fps.flatten) w wr) (fun _ i _=>x.length - (intOf i).toNat)
 case atStart=>exact ⟨0,Nat.zero_le _,rfl,congrArg (Value.int .i64) (by simp),by simpa [mkIntS] using HE.out,Upto.refl _ _⟩
 case round =>
  obtain ⟨j,hj,rfl,rfl,hE,hU⟩:=hrel
  have HEr:=Lib.hid hE; have HU:=Lib.hid hU; clear hE hU
  by_cases hjl:j < x.length
  rotate_left
  ·obtain rfl:j=x.length:=by omega
   go_wp2
   go_ret
   have h:=HEr.out
   rw [List.take_length,List.drop_length,List.append_nil] at h
   have hml:(mkIntS x k).length=x.length:=by simp [mkIntS]
   exact ⟨_,rfl,rfl,⟨_,c,by rw [hml],by rw [hml]; exact hlc,by unfold maxLen; omega,.inr ⟨b,off,fps,fun e=>HL.out (List.eq_nil_of_length_eq_zero (by rw [<-hml,e]; rfl)),rfl,rfl,h⟩⟩,HU.out⟩
  have hml:(mkIntS (x.take j) k).length=j:=by simp [mkIntS]; omega
  have hget:(mkIntS (x.take j) k++x.drop j)[j]? = some x[j]:=by rw [List.getElem?_append_right (by omega),hml]; simp
  obtain ⟨f,cs,hfj,hr,hcs⟩:=HEr.out.2 j _ hget
  obtain ⟨rfl,rfl,hI⟩:=hr
  have hfr:=HU.out.free b List.mem_cons_self (HF.out b List.mem_cons_self)
  have g0:wr.cell? ⟨b,off+j,none⟩=some (.int .i64 x[j]):=by simpa [Rp.int] using hcs 0 _ rfl
  have hfz:=hfr.frozen
  have HML:=Lib.hid hml; have HFJ:=Lib.hid hfj
  clear hml hget hcs hfj hfr
  go_wp2
  go_roundw
  case rel =>
   refine ⟨j+1,by omega,by go_num,congrArg (Value.int .i64) (by omega),?_,HU.out.setCell (p:=⟨b,off+j,none⟩) List.mem_cons_self _⟩
   have hup:=HEr.out.update (w':=wr.setCell ⟨b,off+j,none⟩ (.int .i64 (k+j))) (x':=k+(j:Nat)) (cs':=[.int .i64 (k+j)]) HN.out HFJ.out ⟨rfl,rfl,by constructor<;>omega⟩
    (cells_cons (by simpa [Rp.int] using World.cell?_setCell_same wr ⟨b,off+j,none⟩ (.int .i64 (k+j)) g0) cells_nil)
    (fun z _ hz _=>Below.heap_setCell _ _ _ _ hz) (fun o ho=>setCell_out _ (by simp [Rp.int] at ho; omega))
   have e:(mkIntS (x.take j) k++x.drop j).set j (k+(j:Nat))=mkIntS (x.take (j+1)) k++x.drop (j+1):=by
    rw [List.set_append_right _ _ (by rw [HML.out]; exact Nat.le_refl _),HML.out,Nat.sub_self,List.drop_eq_getElem_cons hjl,List.set_cons_zero,show mkIntS (x.take (j+1)) k=mkIntS (x.take j) k++[k+(j:Nat)] from by simp only [mkIntS,List.length_take,Nat.min_eq_left (Nat.le_of_lt hjl),Nat.min_eq_left (Nat.succ_le_of_lt hjl),List.range_succ,List.map_append]; rfl]
    simp
   rw [e] at hup
   exact hup
  case measure=>simp [intOf]; omega
set_option maxHeartbeats 1000000 in
theorem markStepS_any (v:Value) (x:DStepS) (k:Int) (fp:List Nat) (w:World) (hx:RStepS.rep w [v] x fp) (hn:fp.Nodup) (hf:∀ b ∈ fp,Free w b) (h0:0<=k) (h1:k+cnStepS x<=1073741824) :
  Calls Tryz.prog 40 #[v,.int .i64 k] w (Post (MarkPost RStepS [v] (mkStepS x k) fp (k+cnStepS x) w)):=by
 obtain ⟨ad,c,hv,hlc,hm,hh⟩:=hx
 injection hv with hv
 subst hv
 unfold maxLen at hm
 rcases hh with ⟨rfl,rfl⟩|⟨b,off,fps,hl,rfl,rfl,he⟩
 ·go_enter Tryz.func40,Tryz.ntmps40
  go_wp2
  go_loopw [1,5] (fun kk i wr=>i=.int .i64 0/\kk=.int .i64 k/\wr=w) (fun _ _ _=>0)
  case atStart=>exact ⟨rfl,rfl,rfl⟩
  case round =>
   obtain ⟨rfl,rfl,rfl⟩:=hrel
   go_wp2
   go_ret
   exact ⟨_,rfl,congrArg (Value.int .i64) (by simp [cnStepS]),⟨ad,c,rfl,hlc,by unfold maxLen; omega,.inl ⟨rfl,rfl⟩⟩,Upto.refl _ _⟩
 have HN:=Lib.hid hn; have HF:=Lib.hid hf; have HE:=Lib.hid he; have HL:=Lib.hid hl; clear hn hf he hl
 go_enter Tryz.func40,Tryz.ntmps40
 go_wp2
 go_loopw [1,5] (fun kk i wr=>∃ j:Nat,j<=x.length/\i=.int .i64 j/\kk=.int .i64 (k+(cnStepS (x.take j):Nat))/\Elems RStep wr b off (mkStepS (x.take j) k++x.drop j) fps/\Upto (b :: fps.flatten) w wr) (fun _ i _=>x.length - (intOf i).toNat)
 case atStart=>exact ⟨0,Nat.zero_le _,rfl,congrArg (Value.int .i64) (by simp [cnStepS]),by simpa [mkStepS] using HE.out,Upto.refl _ _⟩
 case round =>
  obtain ⟨j,hj,rfl,rfl,hE,hU⟩:=hrel
  have HEr:=Lib.hid hE; have HU:=Lib.hid hU; clear hE hU
  by_cases hjl:j < x.length
  rotate_left
  ·obtain rfl:j=x.length:=by omega
   go_wp2
   go_ret
   have h:=HEr.out
   rw [List.take_length,List.drop_length,List.append_nil] at h
   have hml:=mkStepS_len x k
   exact ⟨_,rfl,congrArg (Value.int .i64) (by rw [List.take_length]),⟨_,c,by rw [hml],by rw [hml]; exact hlc,by unfold maxLen; omega,.inr ⟨b,off,fps,fun e=>HL.out (List.eq_nil_of_length_eq_zero (by rw [<-hml,e]; rfl)),rfl,rfl,h⟩⟩,HU.out⟩
  have hml:(mkStepS (x.take j) k).length=j:=by rw [mkStepS_len,List.length_take]; omega
  have hget:(mkStepS (x.take j) k++x.drop j)[j]? = some x[j]:=by rw [List.getElem?_append_right (by omega),hml]; simp
  obtain ⟨f,cs,hfj,hr,hcs⟩:=HEr.out.2 j _ hget
  have hfr:=HU.out.free b List.mem_cons_self (HF.out b List.mem_cons_self)
  have hbf:b ∉ f:=fun h=>(List.nodup_cons.1 HN.out).1 (flat_mem hfj b h)
  have hff:∀ z ∈ f,Free wr z:=fun z hz=>HU.out.free z (List.mem_cons_of_mem _ (flat_mem hfj z hz)) (HF.out z (List.mem_cons_of_mem _ (flat_mem hfj z hz)))
  have hfn:f.Nodup:=(List.pairwise_flatten.1 (List.nodup_cons.1 HN.out).2).1 f (List.mem_of_getElem? hfj)
  have hec:cnStepS (x.take j)+ecStep x[j]=cnStepS (x.take (j+1)):=by rw [List.take_succ_eq_append_getElem hjl,cnStepS_snoc]
  have hect:=cnStepS_take x (j+1)
  obtain ⟨q,hq⟩:∃ q:Int,q=k+(cnStepS (x.take j):Nat):=⟨_,rfl⟩
  have hq0:0<=q:=by omega
  have hq1:q+(ecStep x[j]:Nat)<=1073741824:=by omega
  rw [<-hq]
  have HQ:=Lib.hid hq; have HEC:=Lib.hid hec; have HML:=Lib.hid hml; have HFJ:=Lib.hid hfj
  clear hq hec hml hget hfj hect
  obtain ⟨c0,c1,c2,c3,c4,c5,c6,rfl⟩:=list7 (RStep.len hr)
  obtain ⟨f0,f1,rfl,hp0,hp1⟩:=rep_split [c0] [c1,c2,c3,c4,c5,c6] rfl hr
  obtain ⟨f2,f3,rfl,hp2,hp3⟩:=rep_split [c1,c2,c3] [c4,c5,c6] rfl hp1
  obtain ⟨f4,f5,rfl,hp4,hp5⟩:=rep_split [c1,c2] [c3] rfl hp2
  obtain ⟨f6,f7,rfl,hp6,hp7⟩:=rep_split [c1] [c2] rfl hp4
  obtain ⟨f8,f9,rfl,hp8,hp9⟩:=rep_split [c4,c5] [c6] rfl hp3
  obtain ⟨f10,f11,rfl,hp10,hp11⟩:=rep_split [c4] [c5] rfl hp8
  obtain ⟨he0,rfl,hI0⟩:=hp0
  injection he0 with he0; subst he0
  obtain ⟨he1,rfl⟩:=hp6
  injection he1 with he1; subst he1
  obtain ⟨he4,rfl⟩:=hp10
  injection he4 with he4; subst he4
  have hnd:=hfn
  simp only [List.nil_append,List.append_assoc] at hnd
  have HFF:=Lib.hid hff; have HBF:=Lib.hid hbf; clear hff hbf hfn
  obtain ⟨nd0,hnd0,dd0,de0⟩:=nodup_app hnd
  obtain ⟨nd1,hnd1,dd1,de1⟩:=nodup_app hnd0
  obtain ⟨nd2,nd3,dd2,de2⟩:=nodup_app hnd1
  have hm0:∀ z ∈ f7,z ∈ ([]++((([]++f7)++f5)++(([]++f11)++f9))):=fun z hz=>(List.mem_append.2 (.inr (List.mem_append.2 (.inl (List.mem_append.2 (.inl (List.mem_append.2 (.inr hz))))))))
  have nb0:b ∉ f7:=fun h=>HBF.out (hm0 b h)
  have LP0_0:=Lib.hid hp7; have FR0_0:=Lib.hid (fun (z:Nat) (hz:z ∈ f7)=>HFF.out z (hm0 z hz)); clear hp7
  have hl0:(0:Int)<=(x[j].2.1.1.2.length:Nat):=Int.natCast_nonneg _
  have hm1:∀ z ∈ f5,z ∈ ([]++((([]++f7)++f5)++(([]++f11)++f9))):=fun z hz=>(List.mem_append.2 (.inr (List.mem_append.2 (.inl (List.mem_append.2 (.inr hz))))))
  have nb1:b ∉ f5:=fun h=>HBF.out (hm1 b h)
  have LP1_0:=Lib.hid hp5; have FR1_0:=Lib.hid (fun (z:Nat) (hz:z ∈ f5)=>HFF.out z (hm1 z hz)); clear hp5
  have hl1:(0:Int)<=(x[j].2.1.2.length:Nat):=Int.natCast_nonneg _
  have hm2:∀ z ∈ f11,z ∈ ([]++((([]++f7)++f5)++(([]++f11)++f9))):=fun z hz=>(List.mem_append.2 (.inr (List.mem_append.2 (.inr (List.mem_append.2 (.inl (List.mem_append.2 (.inr hz))))))))
  have nb2:b ∉ f11:=fun h=>HBF.out (hm2 b h)
  have LP2_0:=Lib.hid hp11; have FR2_0:=Lib.hid (fun (z:Nat) (hz:z ∈ f11)=>HFF.out z (hm2 z hz)); clear hp11
  have hl2:(0:Int)<=(x[j].2.2.1.2.length:Nat):=Int.natCast_nonneg _
  have hm3:∀ z ∈ f9,z ∈ ([]++((([]++f7)++f5)++(([]++f11)++f9))):=fun z hz=>(List.mem_append.2 (.inr (List.mem_append.2 (.inr (List.mem_append.2 (.inr hz))))))
  have nb3:b ∉ f9:=fun h=>HBF.out (hm3 b h)
  have LP3_0:=Lib.hid hp9; have FR3_0:=Lib.hid (fun (z:Nat) (hz:z ∈ f9)=>HFF.out z (hm3 z hz)); clear hp9
  have hl3:(0:Int)<=(x[j].2.2.2.length:Nat):=Int.natCast_nonneg _
  have hqe:=hq1; simp only [ecStep,ecPoint,ecRat,ecBigInt] at hqe
  have hbl0:b < wr.heap.size:=hfr.lt
  have g0:wr.cell? ⟨b,off+j * 7,none⟩=some (Value.int .i64 x[j].1):=hcs 0 _ rfl
  have g1:wr.cell? ⟨b,off+j * 7+1,none⟩=some (Value.bool x[j].2.1.1.1):=hcs 1 _ rfl
  have g2:wr.cell? ⟨b,off+j * 7+2,none⟩=some c2:=hcs 2 _ rfl
  have g3:wr.cell? ⟨b,off+j * 7+3,none⟩=some c3:=hcs 3 _ rfl
  have g4:wr.cell? ⟨b,off+j * 7+4,none⟩=some (Value.bool x[j].2.2.1.1):=hcs 4 _ rfl
  have g5:wr.cell? ⟨b,off+j * 7+5,none⟩=some c5:=hcs 5 _ rfl
  have g6:wr.cell? ⟨b,off+j * 7+6,none⟩=some c6:=hcs 6 _ rfl
  have hfz:=hfr.frozen
  have HT0:=Lib.hid (Upto.refl (b :: ([]++((([]++f7)++f5)++(([]++f11)++f9)))) wr)
  clear hcs hfr
  go_wp2_with fail
  have hB0:Upto [b] wr _:=(((Upto.refl [b] wr).setCell (p:=⟨b,off+j * 7,none⟩) List.mem_cons_self (Value.int .i64 (q))).setCell (p:=⟨b,off+j * 7+1,none⟩) List.mem_cons_self (Value.bool ((q+1) % 3 == 0)))
  refine (markIntS_any _ _ _ f7 _ (Rp.upto LP0_0.out hB0 (fun z hz hb=>nb0 (List.mem_singleton.1 hb ▸ hz))) nd0 (fun z hz=>(((FR0_0.out z hz).setCell _ _).setCell _ _)) (by omega) (by omega)).mono ?_
  rintro e w1 ⟨v,rfl,rfl,hmm,hu1⟩
  have hbl1:b < w1.heap.size:=Nat.lt_of_lt_of_le (by simpa using hbl0) hu1.size
  have hcb1:=hu1.cell (b:=b) (by simpa using hbl0) nb0
  have hfb1:=hu1.frozen (b:=b) (by simpa using hbl0) nb0
  have HT1:=Lib.hid (((HT0.out.setCell (p:=⟨b,off+j * 7,none⟩) List.mem_cons_self (Value.int .i64 (q))).setCell (p:=⟨b,off+j * 7+1,none⟩) List.mem_cons_self (Value.bool ((q+1) % 3 == 0))).trans (hu1.mono fun z hz=>List.mem_cons_of_mem _ (hm0 z hz))); clear HT0
  have HO1:=Lib.hid (fun (o:Nat) (ho:o < off+j * 7\/off+j * 7+7<=o)=>(hcb1 o).trans ((setCell_out (Value.bool ((q+1) % 3 == 0)) (by omega)).trans ((setCell_out (Value.int .i64 (q)) (by omega)).trans rfl)));
  have LP0_1:=Lib.hid hmm; clear hmm LP0_0
  have LP1_1:=Lib.hid (Rp.upto (Rp.upto LP1_0.out hB0 (fun z hz hb=>nb1 (List.mem_singleton.1 hb ▸ hz))) hu1 (fun z hz hy=>dd0 z hy (List.mem_append.2 (.inl hz)))); clear LP1_0
  have FR1_1:=Lib.hid (fun (z:Nat) (hz:z ∈ f5)=>((((FR1_0.out z hz).setCell _ _).setCell _ _)).frame (hu1.block z (Free.lt (((FR1_0.out z hz).setCell _ _).setCell _ _)) ((fun z hz hy=>dd0 z hy (List.mem_append.2 (.inl hz))) z hz))); clear FR1_0
  have LP2_1:=Lib.hid (Rp.upto (Rp.upto LP2_0.out hB0 (fun z hz hb=>nb2 (List.mem_singleton.1 hb ▸ hz))) hu1 (fun z hz hy=>dd0 z hy (List.mem_append.2 (.inr (List.mem_append.2 (.inl hz)))))); clear LP2_0
  have FR2_1:=Lib.hid (fun (z:Nat) (hz:z ∈ f11)=>((((FR2_0.out z hz).setCell _ _).setCell _ _)).frame (hu1.block z (Free.lt (((FR2_0.out z hz).setCell _ _).setCell _ _)) ((fun z hz hy=>dd0 z hy (List.mem_append.2 (.inr (List.mem_append.2 (.inl hz))))) z hz))); clear FR2_0
  have LP3_1:=Lib.hid (Rp.upto (Rp.upto LP3_0.out hB0 (fun z hz hb=>nb3 (List.mem_singleton.1 hb ▸ hz))) hu1 (fun z hz hy=>dd0 z hy (List.mem_append.2 (.inr (List.mem_append.2 (.inr (hz))))))); clear LP3_0
  have FR3_1:=Lib.hid (fun (z:Nat) (hz:z ∈ f9)=>((((FR3_0.out z hz).setCell _ _).setCell _ _)).frame (hu1.block z (Free.lt (((FR3_0.out z hz).setCell _ _).setCell _ _)) ((fun z hz hy=>dd0 z hy (List.mem_append.2 (.inr (List.mem_append.2 (.inr (hz)))))) z hz))); clear FR3_0
  clear hu1 hB0 FR0_0
  go_wp2_with fail
  have hB1:Upto [b] w1 _:=(Upto.refl [b] w1)
  refine (markIntS_any _ _ _ f5 _ (Rp.upto LP1_1.out hB1 (fun z hz hb=>nb1 (List.mem_singleton.1 hb ▸ hz))) nd1 (fun z hz=>(FR1_1.out z hz)) (by omega) (by omega)).mono ?_
  rintro e w2 ⟨v,rfl,rfl,hmm,hu2⟩
  have hbl2:b < w2.heap.size:=Nat.lt_of_lt_of_le (by simpa using hbl1) hu2.size
  have hcb2:=hu2.cell (b:=b) (by simpa using hbl1) nb1
  have hfb2:=hu2.frozen (b:=b) (by simpa using hbl1) nb1
  have HT2:=Lib.hid (HT1.out.trans (hu2.mono fun z hz=>List.mem_cons_of_mem _ (hm1 z hz))); clear HT1
  have HO2:=Lib.hid (fun (o:Nat) (ho:o < off+j * 7\/off+j * 7+7<=o)=>(hcb2 o).trans (HO1.out o ho)); clear HO1
  have LP0_2:=Lib.hid (Rp.upto (Rp.upto LP0_1.out hB1 (fun z hz hb=>nb0 (List.mem_singleton.1 hb ▸ hz))) hu2 (fun z hy hz=>dd0 z hy (List.mem_append.2 (.inl hz)))); clear LP0_1
  have LP1_2:=Lib.hid hmm; clear hmm LP1_1
  have LP2_2:=Lib.hid (Rp.upto (Rp.upto LP2_1.out hB1 (fun z hz hb=>nb2 (List.mem_singleton.1 hb ▸ hz))) hu2 (fun z hz hy=>dd1 z hy (List.mem_append.2 (.inl hz)))); clear LP2_1
  have FR2_2:=Lib.hid (fun (z:Nat) (hz:z ∈ f11)=>((FR2_1.out z hz)).frame (hu2.block z (Free.lt (FR2_1.out z hz)) ((fun z hz hy=>dd1 z hy (List.mem_append.2 (.inl hz))) z hz))); clear FR2_1
  have LP3_2:=Lib.hid (Rp.upto (Rp.upto LP3_1.out hB1 (fun z hz hb=>nb3 (List.mem_singleton.1 hb ▸ hz))) hu2 (fun z hz hy=>dd1 z hy (List.mem_append.2 (.inr (hz))))); clear LP3_1
  have FR3_2:=Lib.hid (fun (z:Nat) (hz:z ∈ f9)=>((FR3_1.out z hz)).frame (hu2.block z (Free.lt (FR3_1.out z hz)) ((fun z hz hy=>dd1 z hy (List.mem_append.2 (.inr (hz)))) z hz))); clear FR3_1
  clear hu2 hB1 FR1_1
  go_wp2_with fail
  have hB2:Upto [b] w2 _:=((Upto.refl [b] w2).setCell (p:=⟨b,off+j * 7+4,none⟩) List.mem_cons_self (Value.bool ((q+1+1+(x[j].2.1.1.2.length:Nat)+(x[j].2.1.2.length:Nat)) % 3 == 0)))
  refine (markIntS_any _ _ _ f11 _ (Rp.upto LP2_2.out hB2 (fun z hz hb=>nb2 (List.mem_singleton.1 hb ▸ hz))) nd2 (fun z hz=>((FR2_2.out z hz).setCell _ _)) (by omega) (by omega)).mono ?_
  rintro e w3 ⟨v,rfl,rfl,hmm,hu3⟩
  have hbl3:b < w3.heap.size:=Nat.lt_of_lt_of_le (by simpa using hbl2) hu3.size
  have hcb3:=hu3.cell (b:=b) (by simpa using hbl2) nb2
  have hfb3:=hu3.frozen (b:=b) (by simpa using hbl2) nb2
  have HT3:=Lib.hid ((HT2.out.setCell (p:=⟨b,off+j * 7+4,none⟩) List.mem_cons_self (Value.bool ((q+1+1+(x[j].2.1.1.2.length:Nat)+(x[j].2.1.2.length:Nat)) % 3 == 0))).trans (hu3.mono fun z hz=>List.mem_cons_of_mem _ (hm2 z hz))); clear HT2
  have HO3:=Lib.hid (fun (o:Nat) (ho:o < off+j * 7\/off+j * 7+7<=o)=>(hcb3 o).trans ((setCell_out (Value.bool ((q+1+1+(x[j].2.1.1.2.length:Nat)+(x[j].2.1.2.length:Nat)) % 3 == 0)) (by omega)).trans (HO2.out o ho))); clear HO2
  have LP0_3:=Lib.hid (Rp.upto (Rp.upto LP0_2.out hB2 (fun z hz hb=>nb0 (List.mem_singleton.1 hb ▸ hz))) hu3 (fun z hy hz=>dd0 z hy (List.mem_append.2 (.inr (List.mem_append.2 (.inl hz)))))); clear LP0_2
  have LP1_3:=Lib.hid (Rp.upto (Rp.upto LP1_2.out hB2 (fun z hz hb=>nb1 (List.mem_singleton.1 hb ▸ hz))) hu3 (fun z hy hz=>dd1 z hy (List.mem_append.2 (.inl hz)))); clear LP1_2
  have LP2_3:=Lib.hid hmm; clear hmm LP2_2
  have LP3_3:=Lib.hid (Rp.upto (Rp.upto LP3_2.out hB2 (fun z hz hb=>nb3 (List.mem_singleton.1 hb ▸ hz))) hu3 (fun z hz hy=>dd2 z hy (hz))); clear LP3_2
  have FR3_3:=Lib.hid (fun (z:Nat) (hz:z ∈ f9)=>(((FR3_2.out z hz).setCell _ _)).frame (hu3.block z (Free.lt ((FR3_2.out z hz).setCell _ _)) ((fun z hz hy=>dd2 z hy (hz)) z hz))); clear FR3_2
  clear hu3 hB2 FR2_2
  go_wp2_with fail
  have hB3:Upto [b] w3 _:=(Upto.refl [b] w3)
  refine (markIntS_any _ _ _ f9 _ (Rp.upto LP3_3.out hB3 (fun z hz hb=>nb3 (List.mem_singleton.1 hb ▸ hz))) nd3 (fun z hz=>(FR3_3.out z hz)) (by omega) (by omega)).mono ?_
  rintro e w4 ⟨v,rfl,rfl,hmm,hu4⟩
  have hbl4:b < w4.heap.size:=Nat.lt_of_lt_of_le (by simpa using hbl3) hu4.size
  have hcb4:=hu4.cell (b:=b) (by simpa using hbl3) nb3
  have hfb4:=hu4.frozen (b:=b) (by simpa using hbl3) nb3
  have HT4:=Lib.hid (HT3.out.trans (hu4.mono fun z hz=>List.mem_cons_of_mem _ (hm3 z hz))); clear HT3
  have HO4:=Lib.hid (fun (o:Nat) (ho:o < off+j * 7\/off+j * 7+7<=o)=>(hcb4 o).trans (HO3.out o ho)); clear HO3
  have LP0_4:=Lib.hid (Rp.upto (Rp.upto LP0_3.out hB3 (fun z hz hb=>nb0 (List.mem_singleton.1 hb ▸ hz))) hu4 (fun z hy hz=>dd0 z hy (List.mem_append.2 (.inr (List.mem_append.2 (.inr (hz))))))); clear LP0_3
  have LP1_4:=Lib.hid (Rp.upto (Rp.upto LP1_3.out hB3 (fun z hz hb=>nb1 (List.mem_singleton.1 hb ▸ hz))) hu4 (fun z hy hz=>dd1 z hy (List.mem_append.2 (.inr (hz))))); clear LP1_3
  have LP2_4:=Lib.hid (Rp.upto (Rp.upto LP2_3.out hB3 (fun z hz hb=>nb2 (List.mem_singleton.1 hb ▸ hz))) hu4 (fun z hy hz=>dd2 z hy (hz))); clear LP2_3
  have LP3_4:=Lib.hid hmm; clear hmm LP3_3
  clear hu4 hB3 FR3_3
  go_wp2
  go_roundw
  case rel =>
   have e0:w4.cell? ⟨b,off+j * 7,none⟩=some (Value.int .i64 (q)):=by simp [go_sem,hcb1,hcb2,hcb3,hcb4,g0]
   have e1:w4.cell? ⟨b,off+j * 7+1,none⟩=some (Value.bool ((q+1) % 3 == 0)):=by simp [go_sem,hcb1,hcb2,hcb3,hcb4,g1]
   have e2:w4.cell? ⟨b,off+j * 7+2,none⟩=some c2:=by simp [go_sem,hcb1,hcb2,hcb3,hcb4,g2]
   have e3:w4.cell? ⟨b,off+j * 7+3,none⟩=some c3:=by simp [go_sem,hcb1,hcb2,hcb3,hcb4,g3]
   have e4:w4.cell? ⟨b,off+j * 7+4,none⟩=some (Value.bool ((q+1+1+(x[j].2.1.1.2.length:Nat)+(x[j].2.1.2.length:Nat)) % 3 == 0)):=by simp [go_sem,hcb1,hcb2,hcb3,hcb4,g4]
   have e5:w4.cell? ⟨b,off+j * 7+5,none⟩=some c5:=by simp [go_sem,hcb1,hcb2,hcb3,hcb4,g5]
   have e6:w4.cell? ⟨b,off+j * 7+6,none⟩=some c6:=by simp [go_sem,hcb1,hcb2,hcb3,hcb4,g6]
   have hup:=HEr.out.update (w':=w4) (x':=emStep x[j] q) (cs':=[(Value.int .i64 (q)),(Value.bool ((q+1) % 3 == 0)),c2,c3,(Value.bool ((q+1+1+(x[j].2.1.1.2.length:Nat)+(x[j].2.1.2.length:Nat)) % 3 == 0)),c5,c6]) HN.out HFJ.out (rep_pair (rep_int [] (by first|rfl|(simp only [ecStep,ecPoint,ecRat,ecBigInt]; omega)) (by constructor<;>omega)) (rep_pair (rep_pair (rep_pair (rep_bool [] (by first|rfl|(simp only [ecStep,ecPoint,ecRat,ecBigInt]; omega))) (rep_cast LP0_4.out (congrArg (mkIntS _) (by first|rfl|(simp only [ecStep,ecPoint,ecRat,ecBigInt]; omega))))) (rep_cast LP1_4.out (congrArg (mkIntS _) (by first|rfl|(simp only [ecStep,ecPoint,ecRat,ecBigInt]; omega))))) (rep_pair (rep_pair (rep_bool [] (by first|rfl|(simp only [ecStep,ecPoint,ecRat,ecBigInt]; omega))) (rep_cast LP2_4.out (congrArg (mkIntS _) (by first|rfl|(simp only [ecStep,ecPoint,ecRat,ecBigInt]; omega))))) (rep_cast LP3_4.out (congrArg (mkIntS _) (by first|rfl|(simp only [ecStep,ecPoint,ecRat,ecBigInt]; omega))))))) (cells_cons e0 (cells_cons e1 (cells_cons e2 (cells_cons e3 (cells_cons e4 (cells_cons e5 (cells_cons e6 cells_nil)))))))
    (fun z hz hzb hzf=>(HT4.out).block z hz (by rw [List.mem_cons]; exact fun h=>h.elim hzb hzf))
    (fun o ho=>have ho:o < off+j * 7\/off+j * 7+7<=o:=by have h1:(j+1) * 7=j * 7+7:=Nat.succ_mul _ _; have h2:o < off+j * 7\/off+(j+1) * 7<=o:=ho; omega
     (HO4.out o ho))
   have e:(mkStepS (x.take j) k++x.drop j).set j (emStep x[j] q)=mkStepS (x.take (j+1)) k++x.drop (j+1):=by
    rw [List.set_append_right _ _ (by rw [HML.out]; exact Nat.le_refl _),HML.out,Nat.sub_self,List.drop_eq_getElem_cons hjl,List.set_cons_zero,List.take_succ_eq_append_getElem hjl,mkStepS_snoc,<-HQ.out]
    simp
   rw [e] at hup
   refine ⟨j+1,by omega,by go_num,congrArg (Value.int .i64) ?_,hup,HU.out.trans ((HT4.out).mono ?_)⟩
   ·have h1:=HQ.out; have h2:=HEC.out; simp only [ecStep,ecPoint,ecRat,ecBigInt] at h2; omega
   ·intro z hz; rcases List.mem_cons.1 hz with rfl|hz; exact List.mem_cons_self; exact List.mem_cons_of_mem _ (flat_mem HFJ.out z hz)
  case measure=>simp [intOf]; omega
set_option maxHeartbeats 400000 in
theorem heldIntS_any (v:Value) (x:DIntS) (k:Int) (w:World) (hx:Has RIntS w [v] (mkIntS x k)) (h0:0<=k) (h1:k+x.length<=1073741824) :
  Calls Tryz.prog 76 #[v,.int .i64 k] w (Post (HeldPost (k+x.length) w)):=by
 obtain ⟨ad,c,rfl,hc,hm,hg⟩:=hx.elems
 have hml:(mkIntS x k).length=x.length:=by simp [mkIntS]
 have hget:∀ j,j < x.length->∃ b off,ad=some ⟨b,off,none⟩/\b < w.heap.size/\w.cell? ⟨b,off+j,none⟩=some (.int .i64 (k+(j:Nat))):=by
  intro j hj
  obtain ⟨b,off,cs,ha,hb,hx,hcs⟩:=hg j (by omega)
  obtain ⟨c0,rfl⟩:=list1 hx.len
  have he:=hx.int.1
  refine ⟨b,off,ha,hb,?_⟩
  have h:=hcs 0 _ rfl
  rw [he] at h
  simpa [Rp.int,mkIntS] using h
 rw [hml] at hc ⊢
 unfold maxLen at hm
 have HG:=Lib.hid hget; clear hget hg hx hml
 go_enter Tryz.func76,Tryz.ntmps76
 go_wp2
 go_loopw [1,5] (fun kk i wr=>∃ j:Nat,j<=x.length/\i=.int .i64 j/\kk=.int .i64 (k+(j:Nat))/\Below w.heap.size w wr) (fun _ i _=>x.length - (intOf i).toNat)
 case atStart=>exact ⟨0,Nat.zero_le _,rfl,congrArg (Value.int .i64) (by simp),Below.refl _ _⟩
 case round =>
  obtain ⟨j,hj,rfl,rfl,hbw⟩:=hrel
  by_cases hjl:j < x.length
  rotate_left
  ·obtain rfl:j=x.length:=by omega
   go_wp2
   go_ret
   exact ⟨_,rfl,rfl,hbw⟩
  obtain ⟨b,off,rfl,hbl,hcell⟩:=HG.out j hjl
  have g0:wr.cell? ⟨b,off+j,none⟩=some (.int .i64 (k+(j:Nat))):=(hbw.cell (p:=⟨b,_,none⟩) hbl).trans hcell
  clear hcell
  go_wp2
  go_roundw
  case rel=>exact ⟨j+1,by omega,by go_num,congrArg (Value.int .i64) (by omega),hbw⟩
  case measure=>simp [intOf]; omega
set_option maxHeartbeats 1000000 in
theorem heldStepS_any (v:Value) (x:DStepS) (k:Int) (w:World) (hx:Has RStepS w [v] (mkStepS x k)) (h0:0<=k) (h1:k+cnStepS x<=1073741824) :
  Calls Tryz.prog 41 #[v,.int .i64 k] w (Post (HeldPost (k+cnStepS x) w)):=by
 obtain ⟨ad,c,rfl,hc,hm,hg⟩:=hx.elems
 rw [mkStepS_len] at hc ⊢
 have hget:∀ j (hj:j < x.length),∃ b off cs,ad=some ⟨b,off,none⟩/\b < w.heap.size/\Has RStep w cs (emStep x[j] (k+(cnStepS (x.take j):Nat)))/\∀ i u,cs[i]? = some u->w.cell? ⟨b,off+j * RStep.size+i,none⟩=some u:=by
  intro j hj
  obtain ⟨b,off,cs,ha,hb,hx,hcs⟩:=hg j (by rw [mkStepS_len]; exact hj)
  have he:=mkStepS_get x k j x[j] (List.getElem?_eq_getElem hj)
  rw [List.getElem?_eq_getElem (by rw [mkStepS_len]; exact hj)] at he
  injection he with he
  rw [he] at hx
  exact ⟨b,off,cs,ha,hb,hx,hcs⟩
 unfold maxLen at hm
 have HG:=Lib.hid hget; clear hget hg hx
 go_enter Tryz.func41,Tryz.ntmps41
 go_wp2
 go_loopw [1,5] (fun kk i wr=>∃ j:Nat,j<=x.length/\i=.int .i64 j/\kk=.int .i64 (k+(cnStepS (x.take j):Nat))/\Below w.heap.size w wr) (fun _ i _=>x.length - (intOf i).toNat)
 case atStart=>exact ⟨0,Nat.zero_le _,rfl,congrArg (Value.int .i64) (by simp [cnStepS]),Below.refl _ _⟩
 case round =>
  obtain ⟨j,hj,rfl,rfl,hbw⟩:=hrel
  by_cases hjl:j < x.length
  rotate_left
  ·obtain rfl:j=x.length:=by omega
   go_wp2
   go_ret
   exact ⟨_,rfl,congrArg (Value.int .i64) (by rw [List.take_length]),hbw⟩
  obtain ⟨b,off,cs,rfl,hbl,hx,hcs⟩:=HG.out j hjl
  obtain ⟨c0,c1,c2,c3,c4,c5,c6,rfl⟩:=list7 hx.len
  have hec:cnStepS (x.take j)+ecStep x[j]=cnStepS (x.take (j+1)):=by rw [List.take_succ_eq_append_getElem hjl,cnStepS_snoc]
  have hect:=cnStepS_take x (j+1)
  obtain ⟨q,hq⟩:∃ q:Int,q=k+(cnStepS (x.take j):Nat):=⟨_,rfl⟩
  have hq0:0<=q:=by omega
  have hq1:q+(ecStep x[j]:Nat)<=1073741824:=by omega
  rw [<-hq] at hx ⊢
  have HQ:=Lib.hid hq; have HEC:=Lib.hid hec
  clear hq hec hect
  obtain ⟨hp0,hp1⟩:=Has.split (A:=Rp.int) [c0] [c1,c2,c3,c4,c5,c6] rfl hx
  obtain ⟨hp2,hp3⟩:=Has.split (A:=RRat) [c1,c2,c3] [c4,c5,c6] rfl hp1
  obtain ⟨hp4,hp5⟩:=Has.split (A:=RBigInt) [c1,c2] [c3] rfl hp2
  obtain ⟨hp6,hp7⟩:=Has.split (A:=Rp.bool) [c1] [c2] rfl hp4
  obtain ⟨hp8,hp9⟩:=Has.split (A:=RBigInt) [c4,c5] [c6] rfl hp3
  obtain ⟨hp10,hp11⟩:=Has.split (A:=Rp.bool) [c4] [c5] rfl hp8
  have hv0:c0=.int .i64 (q):=hp0.int.1.trans (congrArg (Value.int .i64) (by first|rfl|(simp only [ecStep,ecPoint,ecRat,ecBigInt]; omega)))
  have hv1:c1=.bool ((q+1) % 3 == 0):=hp6.bool.trans (congrArg (fun t:Int=>Value.bool (t % 3 == 0)) (by first|rfl|(simp only [ecStep,ecPoint,ecRat,ecBigInt]; omega)))
  have HX0:=Lib.hid (Has.cast (b:=mkIntS x[j].2.1.1.2 (q+1+1)) hp7 (congrArg (mkIntS _) (by first|rfl|(simp only [ecStep,ecPoint,ecRat,ecBigInt]; omega))))
  have hl0:(0:Int)<=(x[j].2.1.1.2.length:Nat):=Int.natCast_nonneg _
  have HX1:=Lib.hid (Has.cast (b:=mkIntS x[j].2.1.2 (q+1+1+(x[j].2.1.1.2.length:Nat))) hp5 (congrArg (mkIntS _) (by first|rfl|(simp only [ecStep,ecPoint,ecRat,ecBigInt]; omega))))
  have hl1:(0:Int)<=(x[j].2.1.2.length:Nat):=Int.natCast_nonneg _
  have hv4:c4=.bool ((q+1+1+(x[j].2.1.1.2.length:Nat)+(x[j].2.1.2.length:Nat)) % 3 == 0):=hp10.bool.trans (congrArg (fun t:Int=>Value.bool (t % 3 == 0)) (by first|rfl|(simp only [ecStep,ecPoint,ecRat,ecBigInt]; omega)))
  have HX2:=Lib.hid (Has.cast (b:=mkIntS x[j].2.2.1.2 (q+1+1+(x[j].2.1.1.2.length:Nat)+(x[j].2.1.2.length:Nat)+1)) hp11 (congrArg (mkIntS _) (by first|rfl|(simp only [ecStep,ecPoint,ecRat,ecBigInt]; omega))))
  have hl2:(0:Int)<=(x[j].2.2.1.2.length:Nat):=Int.natCast_nonneg _
  have HX3:=Lib.hid (Has.cast (b:=mkIntS x[j].2.2.2 (q+1+1+(x[j].2.1.1.2.length:Nat)+(x[j].2.1.2.length:Nat)+1+(x[j].2.2.1.2.length:Nat))) hp9 (congrArg (mkIntS _) (by first|rfl|(simp only [ecStep,ecPoint,ecRat,ecBigInt]; omega))))
  have hl3:(0:Int)<=(x[j].2.2.2.length:Nat):=Int.natCast_nonneg _
  have hqe:=hq1; simp only [ecStep,ecPoint,ecRat,ecBigInt] at hqe
  have g0:wr.cell? ⟨b,off+j * 7,none⟩=some (.int .i64 (q)):=(hbw.cell (p:=⟨b,_,none⟩) hbl).trans ((hcs 0 _ rfl).trans (congrArg some hv0))
  have g1:wr.cell? ⟨b,off+j * 7+1,none⟩=some (.bool ((q+1) % 3 == 0)):=(hbw.cell (p:=⟨b,_,none⟩) hbl).trans ((hcs 1 _ rfl).trans (congrArg some hv1))
  have g2:wr.cell? ⟨b,off+j * 7+2,none⟩=some c2:=(hbw.cell (p:=⟨b,_,none⟩) hbl).trans (hcs 2 _ rfl)
  have g3:wr.cell? ⟨b,off+j * 7+3,none⟩=some c3:=(hbw.cell (p:=⟨b,_,none⟩) hbl).trans (hcs 3 _ rfl)
  have g4:wr.cell? ⟨b,off+j * 7+4,none⟩=some (.bool ((q+1+1+(x[j].2.1.1.2.length:Nat)+(x[j].2.1.2.length:Nat)) % 3 == 0)):=(hbw.cell (p:=⟨b,_,none⟩) hbl).trans ((hcs 4 _ rfl).trans (congrArg some hv4))
  have g5:wr.cell? ⟨b,off+j * 7+5,none⟩=some c5:=(hbw.cell (p:=⟨b,_,none⟩) hbl).trans (hcs 5 _ rfl)
  have g6:wr.cell? ⟨b,off+j * 7+6,none⟩=some c6:=(hbw.cell (p:=⟨b,_,none⟩) hbl).trans (hcs 6 _ rfl)
  have hbl0:b < wr.heap.size:=Nat.lt_of_lt_of_le hbl hbw.size
  clear hcs hx hp0 hp1 hp2 hp3 hp4 hp5 hp6 hp7 hp8 hp9 hp10 hp11 hv0 hv1 hv4
  go_wp2_with fail
  refine (heldIntS_any _ _ _ _ (HX0.out.below hbw) (by omega) (by omega)).mono ?_
  rintro e w1 ⟨v,rfl,rfl,hbx1⟩
  have hb1:=Below.up hbw hbx1 hbw.size
  have hbl1:b < w1.heap.size:=Nat.lt_of_lt_of_le hbl0 hbx1.size
  have hc1:=fun o=>hbx1.cell (p:=⟨b,o,none⟩) hbl0
  go_wp2_with fail
  refine (heldIntS_any _ _ _ _ (HX1.out.below hb1) (by omega) (by omega)).mono ?_
  rintro e w2 ⟨v,rfl,rfl,hbx2⟩
  have hb2:=Below.up hb1 hbx2 hb1.size
  have hbl2:b < w2.heap.size:=Nat.lt_of_lt_of_le hbl1 hbx2.size
  have hc2:=fun o=>hbx2.cell (p:=⟨b,o,none⟩) hbl1
  go_wp2_with fail
  refine (heldIntS_any _ _ _ _ (HX2.out.below hb2) (by omega) (by omega)).mono ?_
  rintro e w3 ⟨v,rfl,rfl,hbx3⟩
  have hb3:=Below.up hb2 hbx3 hb2.size
  have hbl3:b < w3.heap.size:=Nat.lt_of_lt_of_le hbl2 hbx3.size
  have hc3:=fun o=>hbx3.cell (p:=⟨b,o,none⟩) hbl2
  go_wp2_with fail
  refine (heldIntS_any _ _ _ _ (HX3.out.below hb3) (by omega) (by omega)).mono ?_
  rintro e w4 ⟨v,rfl,rfl,hbx4⟩
  have hb4:=Below.up hb3 hbx4 hb3.size
  have hbl4:b < w4.heap.size:=Nat.lt_of_lt_of_le hbl3 hbx4.size
  have hc4:=fun o=>hbx4.cell (p:=⟨b,o,none⟩) hbl3
  go_wp2
  go_roundw
  case rel =>
   exact ⟨j+1,by omega,by go_num,congrArg (Value.int .i64) (by have h1:=HQ.out; have h2:=HEC.out; simp only [ecStep,ecPoint,ecRat,ecBigInt] at h2; omega),hb4⟩
  case measure=>simp [intOf]; omega
end Go.Proofs.YtaeckjmkjhffnaaGreatDoor

namespace Go.Proofs.YtaeckjmkjhffnaaGreatDoor.DW
open Go.RowKit
theorem eqStepS_fn (x y:DStepS):Fn Tryz.prog 24 [⟨(.slice DW.tStep),x⟩,⟨(.slice DW.tStep),y⟩] false [⟨.bool,eqb x y⟩]:=by
 refine Fn.ofEq (enters Tryz.func24 rfl rfl) fun w v cs u ds hp hx hq hy=>?_
 obtain rfl:=pk_one rfl hp
 obtain rfl:=pk_one rfl hq
 exact eqStepS_any _ _ x y w hx hy
theorem markStepS_fn (x:DStepS) (k:Int) (h0:0<=k) (h1:k+cnStepS x<=1073741824):FnM Tryz.prog 40 (.slice DW.tStep) x (mkStepS x k) k (k+cnStepS x):=by
 refine FnM.of (enters Tryz.func40 rfl rfl) (small_I64 (by omega) h1) fun w v cs fp hp hx hn hf=>?_
 obtain rfl:=pk_one rfl hp
 exact markStepS_any _ x k fp w hx hn hf h0 h1
theorem heldStepS_fn (x:DStepS) (k:Int) (h0:0<=k) (h1:k+cnStepS x<=1073741824):Fn Tryz.prog 41 [⟨(.slice DW.tStep),mkStepS x k⟩,⟨.int,k⟩] false [⟨.int,k+cnStepS x⟩]:=by
 refine Fn.ofInt (enters Tryz.func41 rfl rfl) (small_I64 (by omega) h1) fun w v cs hp hx=>?_
 obtain rfl:=pk_one rfl hp
 exact heldStepS_any _ x k w hx h0 h1
@[go_sem] theorem mkBigInt_sc0 (x:DBigInt) (k:Int):(mkBigInt x k).1=x.1:=(rfl)
@[go_sem] theorem mkRat_sc0 (x:DRat) (k:Int):(mkRat x k).1.1=x.1.1:=(rfl)
@[go_sem] theorem mkPoint_sc0 (x:DPoint) (k:Int):(mkPoint x k).1.1.1=x.1.1.1:=(rfl)
@[go_sem] theorem mkPoint_sc1 (x:DPoint) (k:Int):(mkPoint x k).2.1.1=x.2.1.1:=(rfl)
@[go_sem] theorem mkPlacement_sc0 (x:DPlacement) (k:Int):(mkPlacement x k).1=x.1:=(rfl)
@[go_sem] theorem mkPlacement_sc1 (x:DPlacement) (k:Int):(mkPlacement x k).2.1.1.1=x.2.1.1.1:=(rfl)
@[go_sem] theorem mkPlacement_sc2 (x:DPlacement) (k:Int):(mkPlacement x k).2.2.1.1=x.2.2.1.1:=(rfl)
end Go.Proofs.YtaeckjmkjhffnaaGreatDoor.DW

namespace Go.Proofs.YtaeckjmkjhffnaaGreatDoor
open Go.RowKit in
theorem Has.of {α:Type} {A:Rp α} {w:World} {cs:List Value} {a:α} {fp:List Nat} (h:A.rep w cs a fp):Has A w cs a:=⟨fp,h⟩
end Go.Proofs.YtaeckjmkjhffnaaGreatDoor

namespace Go.Proofs.YtaeckjmkjhffnaaGreatDoor.DW
open Go.RowKit
attribute [go_sem] Option.isSome_none bigD_nat
theorem natL_1:natL 1=[1]:=natL_one (by decide) (by decide)
end Go.Proofs.YtaeckjmkjhffnaaGreatDoor.DW

namespace Go.Proofs.YtaeckjmkjhffnaaGreatDoor.DW
open Go.RowKit
attribute [go_sem] Prod.eta
abbrev DP:Type:=DR × DR
noncomputable def okPt (p:DP):Bool:=okR p.1 && okR p.2
theorem specIsValidPoint_fn (p:DP):Fn Tryz.prog 44 [⟨tPoint,p⟩] false [⟨.bool,okPt p⟩]:=by
 cases h:okR p.1
 ·refine fe Tryz.func44 Tryz.ntmps44 Tryz.results44 fun hwf=>?_
  try simp (maxSteps:=9^9) only[go_sem]
  repeat refine AI ?_
  refine cw (specRatOk_fn p.1) ?_
  try simp (maxSteps:=9^9) only[go_sem]
  try simp (maxSteps:=9^9) only[go_sem,h]
  repeat refine AI ?_
  simp [okPt,h]
 ·refine fe Tryz.func44 Tryz.ntmps44 Tryz.results44 fun hwf=>?_
  try simp (maxSteps:=9^9) only[go_sem]
  repeat refine AI ?_
  refine cw (specRatOk_fn p.1) ?_
  try simp (maxSteps:=9^9) only[go_sem]
  try simp (maxSteps:=9^9) only[go_sem,h]
  repeat refine AI ?_
  refine cw (specRatOk_fn p.2) ?_
  try simp (maxSteps:=9^9) only[go_sem]
  repeat refine AI ?_
  simp [okPt,h]
end Go.Proofs.YtaeckjmkjhffnaaGreatDoor.DW

namespace Go.Proofs.YtaeckjmkjhffnaaGreatDoor.DW
open Go.RowKit
theorem okN_lbs {l:List Int} (h:okN l=true):lbs l/\l.length<=60:=by
 have h:=okN_iff.1 h
 exact ⟨fun i hi=>by rw [ni_lt hi]; exact h.1 _ (List.getElem_mem hi),h.2.1⟩
def fmtB (x:DB):List UInt8:=if x.1=true then 45 :: fmtN x.2 else fmtN x.2
def fmtQ (r:DR):List UInt8:=if val r.2=1 then fmtB r.1 else fmtB r.1++47 :: fmtN r.2
def fmtP (p:DP):List UInt8:=fmtQ p.1++44 :: fmtQ p.2
theorem fmtN_len {l:List Int} (h:lbs l):(fmtN l).length<=9 * l.length+1:=by
 unfold fmtN
 split
 ·simp
 ·have:=(pad9 h (i:=l.length - 1) (by omega)).1
  rw [List.length_append,fmtR_len h _ (by omega)]; omega
theorem okB_lbs {x:DB} (h:okB x=true):lbs x.2/\x.2.length<=60/\okN x.2=true:=by
 obtain ⟨z,rfl,h2⟩:=okBP_iff.1 (okB_iff.1 h)
 have:okN (natL z.natAbs)=true:=okN_iff.2 (okNP_iff.2 ⟨_,rfl,h2⟩)
 exact ⟨(okN_lbs this).1,(okN_lbs this).2,this⟩
theorem formatBig_fn (x:DB) (h:okB x=true):Fn Tryz.prog 113 [⟨tBig,x⟩] false [⟨.str,bs (fmtB x)⟩]:=by
 obtain ⟨s,l⟩:=x
 obtain ⟨h1,h2,h3⟩:=okB_lbs h
 have hl:=fmtN_len h1
 cases s
 ·refine fe Tryz.func113 Tryz.ntmps113 Tryz.results113 fun hwf=>?_
  try simp (maxSteps:=9^9) only[go_sem]
  repeat refine AI ?_
  refine cw (formatNat_fn l h1 h2) ?_
  try simp (maxSteps:=9^9) only[go_sem]
  rfl
 ·refine fe Tryz.func113 Tryz.ntmps113 Tryz.results113 fun hwf=>?_
  try simp (maxSteps:=9^9) only[go_sem]
  repeat refine AI ?_
  refine cw (formatNat_fn l h1 h2) ?_
  try simp (maxSteps:=9^9) only[go_sem]
  exact ⟨ml (by simp at hl h2; omega),rfl⟩
theorem formatBigS_fn (x:DB) (h:okB x=true):Fn Tryz.prog 106 [⟨tBig,x⟩] false [⟨.str,bs (fmtB x)⟩]:=by
 obtain ⟨s,l⟩:=x
 obtain ⟨h1,h2,h3⟩:=okB_lbs h
 have hl:=fmtN_len h1
 cases s
 ·refine fe Tryz.func106 Tryz.ntmps106 Tryz.results106 fun hwf=>?_
  try simp (maxSteps:=9^9) only[go_sem]
  repeat refine AI ?_
  refine cw (specBigIntOk_fn (false,l)) ?_
  try simp (maxSteps:=9^9) only[go_sem]
  try simp (maxSteps:=9^9) only[go_sem,h]
  repeat refine AI ?_
  refine cw (formatNatS_fn l h1 h2 h3) ?_
  try simp (maxSteps:=9^9) only[go_sem]
  rfl
 ·refine fe Tryz.func106 Tryz.ntmps106 Tryz.results106 fun hwf=>?_
  try simp (maxSteps:=9^9) only[go_sem]
  repeat refine AI ?_
  refine cw (specBigIntOk_fn (true,l)) ?_
  try simp (maxSteps:=9^9) only[go_sem]
  try simp (maxSteps:=9^9) only[go_sem,h]
  repeat refine AI ?_
  refine cw (formatNatS_fn l h1 h2 h3) ?_
  try simp (maxSteps:=9^9) only[go_sem]
  exact ⟨ml (by simp at hl h2; omega),rfl⟩
theorem okR_parts {r:DR} (h:okR r=true):okB r.1=true/\okN r.2=true/\∃ (z:Int) (n:Nat),r=(bigD z,natL n):=by
 obtain ⟨x,d⟩:=r
 rw [okR_eq] at h
 simp only [Bool.and_eq_true] at h
 obtain ⟨⟨⟨⟨⟨h1,h2⟩,_⟩,_⟩,_⟩,_⟩:=h
 obtain ⟨z,e1,_⟩:=okBP_iff.1 (okB_iff.1 h1)
 obtain ⟨n,e2,_⟩:=okNP_iff.1 (okN_iff.1 h2)
 exact ⟨h1,h2,z,n,by rw [e1,e2]⟩
theorem fmtB_len {x:DB} (h:okB x=true):(fmtB x).length<=542:=by
 obtain ⟨h1,h2,_⟩:=okB_lbs h
 have:=fmtN_len h1
 unfold fmtB
 split
 ·rw [List.length_cons]; omega
 ·omega
theorem fmtQ_len {r:DR} (h:okR r=true):(fmtQ r).length<=1084:=by
 obtain ⟨h1,h2,_⟩:=okR_parts h
 have a1:=fmtB_len h1
 have a2:=fmtN_len (okN_lbs h2).1
 have a3:=(okN_lbs h2).2
 unfold fmtQ
 split
 ·omega
 ·rw [List.length_append,List.length_cons]; omega
theorem formatRat_fn (r:DR) (h:okR r=true):Fn Tryz.prog 84 [⟨tRat,r⟩] false [⟨.str,bs (fmtQ r)⟩]:=by
 obtain ⟨h1,h2,z,n,rfl⟩:=okR_parts h
 have hv:val (natL n)=n:=val_natL n
 have a1:=fmtB_len h1
 have a2:=fmtN_len (okN_lbs h2).1
 have a3:=(okN_lbs h2).2
 dsimp only at h1 h2 a1 a2 a3
 have a1':(fmtB (decide (z < 0),natL z.natAbs)).length<=542:=a1
 have h':okR ((decide (z < 0),natL z.natAbs),natL n)=true:=h
 by_cases hn:n=1
 ·have e:fmtQ (bigD z,natL n)=fmtB (bigD z):=if_pos (by show val (natL n)=1; rw [hv]; exact hn)
  rw [e]
  refine fe Tryz.func84 Tryz.ntmps84 Tryz.results84 fun hwf=>?_
  try simp (maxSteps:=9^9) only[go_sem]
  repeat refine AI ?_
  refine cw (isOne_fn n) ?_
  try simp (maxSteps:=9^9) only[go_sem]
  try simp (maxSteps:=9^9) only[go_sem,hn]
  repeat refine AI ?_
  refine cw (formatBig_fn (bigD z) h1) ?_
  try simp (maxSteps:=9^9) only[go_sem]
 ·have e:fmtQ (bigD z,natL n)=fmtB (bigD z)++47 :: fmtN (natL n):=if_neg (by show ¬ val (natL n)=1; rw [hv]; exact hn)
  rw [e]
  refine fe Tryz.func84 Tryz.ntmps84 Tryz.results84 fun hwf=>?_
  try simp (maxSteps:=9^9) only[go_sem]
  repeat refine AI ?_
  refine cw (isOne_fn n) ?_
  try simp (maxSteps:=9^9) only[go_sem]
  try simp (maxSteps:=9^9) only[go_sem,hn]
  repeat refine AI ?_
  refine cw (formatBig_fn (bigD z) h1) ?_
  try simp (maxSteps:=9^9) only[go_sem]
  refine ⟨ml (by omega),?_⟩
  repeat refine AI ?_
  refine cw (formatNat_fn (natL n) (okN_lbs h2).1 (okN_lbs h2).2) ?_
  try simp (maxSteps:=9^9) only[go_sem]
  refine ⟨ml (by omega),by kernel_rfl,?_⟩
  rw [List.append_assoc]; rfl
noncomputable def fmtRO (r:DR):List UInt8:=if okR r=true then fmtQ r else []
theorem formatRatS_fn (r:DR):Fn Tryz.prog 79 [⟨tRat,r⟩] false [⟨.str,bs (fmtRO r)⟩]:=by
 cases h:okR r
 ·rw [show fmtRO r=[] from if_neg (by rw [h]; decide)]
  refine fe Tryz.func79 Tryz.ntmps79 Tryz.results79 fun hwf=>?_
  try simp (maxSteps:=9^9) only[go_sem]
  repeat refine AI ?_
  refine cw (specRatOk_fn r) ?_
  try simp (maxSteps:=9^9) only[go_sem]
  try simp (maxSteps:=9^9) only[go_sem,h]
 ·rw [show fmtRO r=fmtQ r from if_pos h]
  obtain ⟨h1,h2,z,n,rfl⟩:=okR_parts h
  have hv:val (natL n)=n:=val_natL n
  have a1:=fmtB_len h1
  have a2:=fmtN_len (okN_lbs h2).1
  have a3:=(okN_lbs h2).2
  dsimp only at h1 h2 a1 a2 a3
  have a1':(fmtB (decide (z < 0),natL z.natAbs)).length<=542:=a1
  have h':okR ((decide (z < 0),natL z.natAbs),natL n)=true:=h
  by_cases hn:n=1
  ·have e:fmtQ (bigD z,natL n)=fmtB (bigD z):=if_pos (by show val (natL n)=1; rw [hv]; exact hn)
   rw [e]
   refine fe Tryz.func79 Tryz.ntmps79 Tryz.results79 fun hwf=>?_
   try simp (maxSteps:=9^9) only[go_sem]
   repeat refine AI ?_
   refine cw (specRatOk_fn (bigD z,natL n)) ?_
   try simp (maxSteps:=9^9) only[go_sem]
   try simp (maxSteps:=9^9) only[go_sem,h']
   repeat refine AI ?_
   refine cw (l04One_fn n) ?_
   try simp (maxSteps:=9^9) only[go_sem]
   try simp (maxSteps:=9^9) only[go_sem,hn]
   repeat refine AI ?_
   refine cw (formatBigS_fn (bigD z) h1) ?_
   try simp (maxSteps:=9^9) only[go_sem]
  ·have e:fmtQ (bigD z,natL n)=fmtB (bigD z)++47 :: fmtN (natL n):=if_neg (by show ¬ val (natL n)=1; rw [hv]; exact hn)
   rw [e]
   refine fe Tryz.func79 Tryz.ntmps79 Tryz.results79 fun hwf=>?_
   try simp (maxSteps:=9^9) only[go_sem]
   repeat refine AI ?_
   refine cw (specRatOk_fn (bigD z,natL n)) ?_
   try simp (maxSteps:=9^9) only[go_sem]
   try simp (maxSteps:=9^9) only[go_sem,h']
   repeat refine AI ?_
   refine cw (l04One_fn n) ?_
   try simp (maxSteps:=9^9) only[go_sem]
   try simp (maxSteps:=9^9) only[go_sem,hn]
   repeat refine AI ?_
   refine cw (formatBigS_fn (bigD z) h1) ?_
   try simp (maxSteps:=9^9) only[go_sem]
   refine ⟨ml (by omega),?_⟩
   repeat refine AI ?_
   refine cw (formatNatS_fn (natL n) (okN_lbs h2).1 (okN_lbs h2).2 h2) ?_
   try simp (maxSteps:=9^9) only[go_sem]
   refine ⟨ml (by omega),by kernel_rfl,?_⟩
   rw [List.append_assoc]; rfl
theorem okPt_parts {p:DP} (h:okPt p=true):okR p.1=true/\okR p.2=true:=by
 rw [okPt,Bool.and_eq_true] at h; exact h
noncomputable def fmtPO (p:DP):List UInt8:=if okPt p=true then fmtP p else []
theorem fmtP_len {p:DP} (h:okPt p=true):(fmtP p).length<=2170:=by
 obtain ⟨h1,h2⟩:=okPt_parts h
 have a1:=fmtQ_len h1
 have a2:=fmtQ_len h2
 unfold fmtP
 rw [List.length_append,List.length_cons]; omega
theorem formatPointS_fn (p:DP):Fn Tryz.prog 46 [⟨tPoint,p⟩] false [⟨.str,bs (fmtPO p)⟩]:=by
 cases h:okPt p
 ·rw [show fmtPO p=[] from if_neg (by rw [h]; decide)]
  refine fe Tryz.func46 Tryz.ntmps46 Tryz.results46 fun hwf=>?_
  try simp (maxSteps:=9^9) only[go_sem]
  repeat refine AI ?_
  refine cw (specIsValidPoint_fn p) ?_
  try simp (maxSteps:=9^9) only[go_sem]
  try simp (maxSteps:=9^9) only[go_sem,h]
 ·rw [show fmtPO p=fmtP p from if_pos h]
  obtain ⟨h1,h2⟩:=okPt_parts h
  have a1:=fmtQ_len h1
  have a2:=fmtQ_len h2
  have e1:fmtRO p.1=fmtQ p.1:=if_pos h1
  have e2:fmtRO p.2=fmtQ p.2:=if_pos h2
  have c1:=formatRatS_fn p.1
  have c2:=formatRatS_fn p.2
  rw [e1] at c1
  rw [e2] at c2
  refine fe Tryz.func46 Tryz.ntmps46 Tryz.results46 fun hwf=>?_
  try simp (maxSteps:=9^9) only[go_sem]
  repeat refine AI ?_
  refine cw (specIsValidPoint_fn p) ?_
  try simp (maxSteps:=9^9) only[go_sem]
  try simp (maxSteps:=9^9) only[go_sem,h]
  repeat refine AI ?_
  refine cw c1 ?_
  try simp (maxSteps:=9^9) only[go_sem]
  refine ⟨ml (by omega),?_⟩
  repeat refine AI ?_
  refine cw c2 ?_
  try simp (maxSteps:=9^9) only[go_sem]
  refine ⟨ml (by omega),by kernel_rfl,?_⟩
  rw [List.append_assoc]; rfl
def wrd (t:Int):List UInt8:=if t=-1 then [114,105,103,104,116] else if t=0 then [109,111,118,101] else [108,101,102,116]
noncomputable def fmtS (p:Int × DP):List UInt8:=if (-1<=p.1/\p.1<=1)/\okPt p.2=true then wrd p.1++32 :: fmtP p.2 else []
theorem fmtS_no {h:Int} {q:DP} (ho:okPt q=false):fmtS (h,q)=[]:=if_neg fun ⟨_,e⟩=>by rw [ho] at e; cases e
theorem stepWords_fn:Fn Tryz.prog 54 [] true [⟨.slice .str,[bs [114,105,103,104,116],bs [109,111,118,101],bs [108,101,102,116]]⟩]:=by
 refine fe Tryz.func54 Tryz.ntmps54 Tryz.results54 fun hwf=>?_
 try simp (maxSteps:=9^9) only[go_sem]
theorem wrd_nthS {t:Int} (h0:-1<=t) (h3:t<=1):@nth .str [bs [114,105,103,104,116,32],bs [109,111,118,101,32],bs [108,101,102,116,32]] (t+1).toNat=bs (wrd t++[32]):=by
 obtain rfl|rfl|rfl:t=-1\/t=0\/t=1:=by omega
 all_goals rfl
theorem wrd_len (t:Int):(wrd t).length<=5:=by unfold wrd; split; decide; split; decide; decide
theorem l22Turn_fn (t:Int):Fn Tryz.prog 52 [⟨.int,t⟩] false [⟨.bool,decide (-1<=t/\t<=1)⟩]:=by
 refine fe Tryz.func52 Tryz.ntmps52 Tryz.results52 fun hwf=>?_
 try simp (maxSteps:=9^9) only[go_sem]
 repeat refine AI ?_
 refine cw (l01In_fn t (-1) 1) ?_
 try simp (maxSteps:=9^9) only[go_sem]
theorem formatStepS_fn (h:Int) (q:DP):Fn Tryz.prog 16 [⟨tStep,(h,q)⟩] false [⟨.str,bs (fmtS (h,q))⟩]:=by
 by_cases hh:-1<=h/\h<=1
 ·cases ho:okPt q
  ·rw [fmtS_no ho]
   refine fe Tryz.func16 Tryz.ntmps16 Tryz.results16 fun hwf=>?_
   try simp (maxSteps:=9^9) only[go_sem]
   repeat refine AI ?_
   refine cw (l22Turn_fn h) ?_
   try simp (maxSteps:=9^9) only[go_sem]
   try simp (maxSteps:=9^9) only[go_sem,hh]
   repeat refine AI ?_
   refine cw (specIsValidPoint_fn q) ?_
   try simp (maxSteps:=9^9) only[go_sem]
   try simp (maxSteps:=9^9) only[go_sem,ho]
  ·rw [show fmtS (h,q)=wrd h++32 :: fmtP q from if_pos ⟨hh,ho⟩]
   have a1:=fmtP_len ho
   have a2:=wrd_len h
   have e1:fmtPO q=fmtP q:=if_pos ho
   have c1:=formatPointS_fn q
   rw [e1] at c1
   refine fe Tryz.func16 Tryz.ntmps16 Tryz.results16 fun hwf=>?_
   try simp (maxSteps:=9^9) only[go_sem]
   repeat refine AI ?_
   refine cw (l22Turn_fn h) ?_
   try simp (maxSteps:=9^9) only[go_sem]
   try simp (maxSteps:=9^9) only[go_sem,hh]
   repeat refine AI ?_
   refine cw (specIsValidPoint_fn q) ?_
   try simp (maxSteps:=9^9) only[go_sem]
   try simp (maxSteps:=9^9) only[go_sem,ho]
   refine ⟨by constructor<;>omega,by omega,by show h+1 < ((3:Nat):Int); omega,by omega,?_⟩
   refine cw c1 ?_
   try simp (maxSteps:=9^9) only[go_sem]
   rw [wrd_nthS hh.1 hh.2]
   try simp (maxSteps:=9^9) only[go_sem]
   refine ⟨ml (by omega),by kernel_rfl,?_⟩
   rw [List.append_assoc]; rfl
 ·rw [show fmtS (h,q)=[] from if_neg (fun h=>hh h.1)]
  refine fe Tryz.func16 Tryz.ntmps16 Tryz.results16 fun hwf=>?_
  try simp (maxSteps:=9^9) only[go_sem]
  repeat refine AI ?_
  refine cw (l22Turn_fn h) ?_
  try simp (maxSteps:=9^9) only[go_sem]
  try simp (maxSteps:=9^9) only[go_sem,hh]
theorem bfr_no {c:UInt8}:∀ {s:List UInt8},c ∉ s->bfr c s=s
 | [],_=>rfl
 | b :: l,h=>by
  rw [bfr,if_neg (fun e=>h (by rw [e]; exact List.mem_cons_self)),bfr_no fun hm=>h (List.mem_cons_of_mem _ hm)]
theorem bfr_app {c:UInt8} {y:List UInt8}:∀ {x:List UInt8},c ∉ x->bfr c (x++c :: y)=x
 | [],_=>if_pos rfl
 | b :: l,h=>by
  rw [List.cons_append,bfr,if_neg (fun e=>h (by rw [e]; exact List.mem_cons_self)),bfr_app fun hm=>h (List.mem_cons_of_mem _ hm)]
theorem aft_app {c:UInt8} {x y:List UInt8} (h:c ∉ x):aft c (x++c :: y)=y:=by
 rw [aft,bfr_app h,show x++c :: y=(x++[c])++y by rw [List.append_assoc]; rfl,List.drop_left' (by rw [List.length_append]; rfl)]
theorem bfr_not (c:UInt8):∀ s:List UInt8,c ∉ bfr c s
 | []=>fun h=>by cases h
 | b :: l=>fun h=>by
  unfold bfr at h
  split at h
  ·cases h
  ·rename_i hb
   rcases List.mem_cons.1 h with e|e
   ·exact hb e.symm
   ·exact bfr_not c l e
theorem bfr_aft {c:UInt8}:∀ {s:List UInt8},c ∈ s->s=bfr c s++c :: aft c s
 | [],h=>by cases h
 | b :: l,h=>by
  by_cases hb:b=c
  ·rw [aft,bfr,if_pos hb,hb]; rfl
  ·have:=bfr_aft ((List.mem_cons.1 h).resolve_left fun e=>hb e.symm)
   rw [aft,bfr,if_neg hb,List.length_cons,List.drop_succ_cons,List.cons_append]
   exact congrArg (b :: ·) this
def spl (c:UInt8):List UInt8->List (List UInt8)
 | []=>[[]]
 | b :: l=>if b=c then [] :: spl c l else match spl c l with
  | []=>[[b]]
  | x :: r=>(b :: x) :: r
theorem spl_no {c:UInt8}:∀ {s:List UInt8},c ∉ s->spl c s=[s]
 | [],_=>rfl
 | b :: l,h=>by
  rw [spl,if_neg (fun e=>h (by rw [e]; exact List.mem_cons_self)),spl_no fun hm=>h (List.mem_cons_of_mem _ hm)]
theorem spl_app {c:UInt8} {y:List UInt8}:∀ {x:List UInt8},c ∉ x->spl c (x++c :: y)=x :: spl c y
 | [],_=>if_pos rfl
 | b :: l,h=>by
  rw [List.cons_append,spl,if_neg (fun e=>h (by rw [e]; exact List.mem_cons_self)),spl_app fun hm=>h (List.mem_cons_of_mem _ hm)]
theorem spl_in {c:UInt8} {s:List UInt8} (h:c ∈ s):spl c s=bfr c s :: spl c (aft c s):=by
 have e:=bfr_aft h
 have:=spl_app (y:=aft c s) (bfr_not c s)
 rw [<-e] at this; exact this
theorem spl_cons (c:UInt8) (s:List UInt8):∃ r,spl c s=bfr c s :: r:=by
 by_cases h:c ∈ s
 ·exact ⟨_,spl_in h⟩
 ·exact ⟨[],by rw [spl_no h,bfr_no h]⟩
theorem spl_len (c:UInt8):∀ s:List UInt8,(spl c s).length<=s.length+1
 | []=>Nat.le_refl _
 | b :: l=>by
  have:=spl_len c l
  rw [spl]
  split
  ·rw [List.length_cons,List.length_cons]; omega
  ·split
   ·simp
   ·rename_i e; rw [e] at this; simp at this ⊢; omega
theorem notD {c:UInt8} (h:c.toNat < 48):¬ isD c:=fun h'=>by have:=h'.1; omega
theorem fmtN_no {l:List Int} (h:lbs l) {c:UInt8} (hc:c.toNat < 48):c ∉ fmtN l:=fun hm=>notD hc (fmtN_D h c hm)
theorem okNP_lbs {l:List Int} (h:okNP l):lbs l:=fun i hi=>by rw [ni_lt hi]; exact h.1 _ (List.getElem_mem hi)
theorem okB_N {x:DB} (h:okB x=true):okNP x.2/\¬ (x.1=true/\x.2=[]):=by
 have h:=okB_iff.1 h
 exact ⟨h.1,fun ⟨a,b⟩=>h.2 ⟨a,by rw [b]; rfl⟩⟩
theorem sgP_fmt {x:DB} (h:okB x=true):sgP (fmtB x) ↔ x.1=true:=by
 obtain ⟨n,l⟩:=x
 cases n
 ·refine ⟨fun ⟨t,e⟩=>?_,fun e=>by cases e⟩
  have e:fmtN l=45 :: t:=e
  exact absurd (by rw [e]; exact List.mem_cons_self) (fmtN_no (c:=45) (okNP_lbs (okB_N h).1) (by decide))
 ·exact ⟨fun _=>rfl,fun _=>⟨fmtN l,rfl⟩⟩
theorem dgP_fmt {x:DB} (h:okB x=true):dgP (fmtB x)=fmtN x.2:=by
 have hs:=sgP_fmt h
 have ht:=sgP_take (fmtB x)
 obtain ⟨n,l⟩:=x
 cases n
 ·rw [bdec_f (fun e=>by have:=hs.1 e; cases this)] at ht
  exact if_neg (of_decide_eq_false ht.symm)
 ·rfl
theorem pB_fmt {x:DB} (h:okB x=true):pB (fmtB x)=some x:=by
 obtain ⟨h1,h2⟩:=okB_N h
 have hp:=pN_fmt h1
 have hs:=sgP_fmt h
 have hb:bigP (fmtB x):=⟨x.2,by rw [dgP_fmt h]; exact hp,fun ⟨a,b⟩=>h2 ⟨hs.1 a,b⟩⟩
 rw [pB,if_pos hb,dgP_fmt h,hp]
 have e:bdec (sgP (fmtB x))=x.1:=by
  cases hx:x.1
  ·exact bdec_f fun e=>by have:=hs.1 e; rw [hx] at this; cases this
  ·exact bdec_t (hs.2 hx)
 rw [e]; rfl
theorem fmtB_no {x:DB} (h:okB x=true) {c:UInt8} (hc:c.toNat < 48) (h45:c ≠ 45):c ∉ fmtB x:=by
 have h1:=fmtN_no (okNP_lbs (okB_N h).1) hc
 unfold fmtB
 split
 ·exact fun hm=>(List.mem_cons.1 hm).elim h45 h1
 ·exact h1
theorem fmtQ_one {r:DR} (h:okR r=true) (h1:val r.2=1):r.2=[1]:=by
 obtain ⟨_,_,z,n,rfl⟩:=okR_parts h
 have:n=1:=(val_natL n).symm.trans h1
 subst this
 exact natL_1
theorem okN_P {r:DR} (h:okR r=true):okNP r.2:=okN_iff.1 (okR_parts h).2.1
theorem fmtQ_in {r:DR} (h:okR r=true) (hm:47 ∈ fmtQ r):bfr 47 (fmtQ r)=fmtB r.1/\aft 47 (fmtQ r)=fmtN r.2:=by
 have h1:=fmtB_no (okR_parts h).1 (c:=47) (by decide) (by decide)
 by_cases hv:val r.2=1
 ·rw [fmtQ,if_pos hv] at hm; exact absurd hm h1
 ·rw [fmtQ,if_neg hv]
  exact ⟨bfr_app h1,aft_app h1⟩
theorem fmtQ_out {r:DR} (h:okR r=true) (hm:47 ∉ fmtQ r):fmtQ r=fmtB r.1/\r.2=[1]:=by
 by_cases hv:val r.2=1
 ·exact ⟨if_pos hv,fmtQ_one h hv⟩
 ·rw [fmtQ,if_neg hv] at hm
  exact absurd (List.mem_append_right _ List.mem_cons_self) hm
theorem fmtQ_no {r:DR} (h:okR r=true) {c:UInt8} (hc:c.toNat < 48) (h45:c ≠ 45) (h47:c ≠ 47):c ∉ fmtQ r:=by
 have h1:=fmtB_no (okR_parts h).1 hc h45
 have h2:=fmtN_no (okNP_lbs (okN_P h)) hc
 unfold fmtQ
 split
 ·exact h1
 ·exact fun hm=>(List.mem_append.1 hm).elim h1 fun hm=>(List.mem_cons.1 hm).elim h47 h2
theorem fmtQ_inj {r q:DR} (h:okR r=true) (h':okR q=true) (e:fmtQ r=fmtQ q):r=q:=by
 by_cases hm:47 ∈ fmtQ r
 ·obtain ⟨a1,a2⟩:=fmtQ_in h hm
  obtain ⟨b1,b2⟩:=fmtQ_in h' (by rw [<-e]; exact hm)
  rw [e] at a1 a2
  have e1:some r.1=some q.1:=by rw [<-pB_fmt (okR_parts h).1,<-pB_fmt (okR_parts h').1,<-a1,<-b1]
  have e2:some r.2=some q.2:=by rw [<-pN_fmt (okN_P h),<-pN_fmt (okN_P h'),<-a2,<-b2]
  exact Prod.ext (Option.some.inj e1) (Option.some.inj e2)
 ·obtain ⟨a1,a2⟩:=fmtQ_out h hm
  obtain ⟨b1,b2⟩:=fmtQ_out h' (by rw [<-e]; exact hm)
  have e1:some r.1=some q.1:=by rw [<-pB_fmt (okR_parts h).1,<-pB_fmt (okR_parts h').1,<-a1,<-b1,e]
  exact Prod.ext (Option.some.inj e1) (a2.trans b2.symm)
open Classical in
noncomputable def unF {α:Type} (ok:α->Prop) (f:α->List UInt8) (s:List UInt8):Option α:=if h:∃ x,ok x/\f x=s then some h.choose else none
theorem unF_some {α:Type} {ok:α->Prop} {f:α->List UInt8} (hi:∀ x y,ok x->ok y->f x=f y->x=y) {x:α} {s:List UInt8} (h:ok x) (e:f x=s):unF ok f s=some x:=by
 have hx:∃ x,ok x/\f x=s:=⟨x,h,e⟩
 rw [unF,dif_pos hx,hi _ _ hx.choose_spec.1 h (hx.choose_spec.2.trans e.symm)]
theorem unF_none {α:Type} {ok:α->Prop} {f:α->List UInt8} {s:List UInt8} (h:∀ x,ok x->f x ≠ s):unF ok f s=none:=dif_neg fun ⟨x,h1,h2⟩=>h x h1 h2
theorem unF_eq {α:Type} {ok:α->Prop} {f:α->List UInt8} {s:List UInt8} {x:α} (h:unF ok f s=some x):ok x/\f x=s:=by
 unfold unF at h
 split at h
 ·rename_i hx
  rw [<-Option.some.inj h]; exact hx.choose_spec
 ·cases h
noncomputable def pQ (s:List UInt8):Option DR:=unF (okR ·=true) fmtQ s
theorem pQ_some {r:DR} (h:okR r=true):pQ (fmtQ r)=some r:=unF_some (fun _ _=>fmtQ_inj) h rfl
noncomputable def pP (s:List UInt8):Option DP:=unF (okPt ·=true) fmtP s
theorem fmtP_in {p:DP} (h:okPt p=true):44 ∈ fmtP p/\bfr 44 (fmtP p)=fmtQ p.1/\aft 44 (fmtP p)=fmtQ p.2:=by
 have h1:=fmtQ_no (okPt_parts h).1 (c:=44) (by decide) (by decide) (by decide)
 exact ⟨List.mem_append_right _ List.mem_cons_self,bfr_app h1,aft_app h1⟩
theorem fmtP_inj {p q:DP} (h:okPt p=true) (h':okPt q=true) (e:fmtP p=fmtP q):p=q:=by
 obtain ⟨_,a1,a2⟩:=fmtP_in h
 obtain ⟨_,b1,b2⟩:=fmtP_in h'
 rw [e] at a1 a2
 exact Prod.ext (fmtQ_inj (okPt_parts h).1 (okPt_parts h').1 (a1.symm.trans b1)) (fmtQ_inj (okPt_parts h).2 (okPt_parts h').2 (a2.symm.trans b2))
theorem fmtP_no {p:DP} (h:okPt p=true) {c:UInt8} (hc:c.toNat < 48) (h45:c ≠ 45) (h47:c ≠ 47) (h44:c ≠ 44):c ∉ fmtP p:=fun hm =>
 (List.mem_append.1 hm).elim (fmtQ_no (okPt_parts h).1 hc h45 h47) fun hm=>(List.mem_cons.1 hm).elim h44 (fmtQ_no (okPt_parts h).2 hc h45 h47)
theorem pP_eq {s:List UInt8}:pP s=if 44 ∈ s then (match pQ (bfr 44 s),pQ (aft 44 s) with|some x,some y=>some (x,y)|_,_=>none) else none:=by
 by_cases hm:44 ∈ s
 ·rw [if_pos hm]
  cases hx:pQ (bfr 44 s) with
  | none =>
   refine unF_none fun p hp e=>?_
   have:=(fmtP_in hp).2.1
   rw [e] at this
   rw [this,pQ_some (okPt_parts hp).1] at hx; cases hx
  | some x =>
   cases hy:pQ (aft 44 s) with
   | none =>
    refine unF_none fun p hp e=>?_
    have:=(fmtP_in hp).2.2
    rw [e] at this
    rw [this,pQ_some (okPt_parts hp).2] at hy; cases hy
   | some y =>
    obtain ⟨x1,x2⟩:=unF_eq hx
    obtain ⟨y1,y2⟩:=unF_eq hy
    refine unF_some (fun _ _=>fmtP_inj) (x:=(x,y)) ?_ ?_
    ·show (okR x && okR y)=true
     rw [show okR x=true from x1,show okR y=true from y1]; rfl
    ·show fmtQ x++44 :: fmtQ y=s
     rw [x2,y2]; exact (bfr_aft hm).symm
 ·rw [if_neg hm]
  exact unF_none fun p hp e=>hm (by rw [<-e]; exact (fmtP_in hp).1)
theorem spl_step {s:List UInt8} {c:UInt8} {f i:Nat} (h1:f<=i) (h2:i < s.length) (hn:c ∉ (s.drop f).take (i - f)) (hc:s.getD i 0=c):spl c (s.drop f)=(s.drop f).take (i - f) :: spl c (s.drop (i+1)):=by
 have e:s.drop f=(s.drop f).take (i - f)++c :: s.drop (i+1):=by
  have e1:(s.drop f).drop (i - f)=c :: s.drop (i+1):=by
   rw [List.drop_drop,show f+(i - f)=i by omega,List.drop_eq_getElem_cons h2,<-hc,List.getD_eq_getElem?_getD,List.getElem?_eq_getElem h2]; rfl
  rw [<-e1,List.take_append_drop]
 have:=spl_app (y:=s.drop (i+1)) hn
 rw [<-e] at this; exact this
theorem spl_keep {s:List UInt8} {c:UInt8} {f i:Nat} (h1:f<=i) (h2:i < s.length) (hn:c ∉ (s.drop f).take (i - f)) (hc:s.getD i 0 ≠ c):c ∉ (s.drop f).take (i+1 - f):=by
 have hl:i - f < (s.drop f).length:=by rw [List.length_drop]; omega
 rw [show i+1 - f=(i - f)+1 by omega,<-List.take_append_getElem hl,List.getElem_drop]
 intro hm
 rcases List.mem_append.1 hm with h|h
 ·exact hn h
 ·rw [List.mem_singleton] at h
  refine hc ?_
  rw [List.getD_eq_getElem?_getD,List.getElem?_eq_getElem h2,h]
  simp only [show f+(i - f)=i by omega]; rfl
@[go_sem] theorem bts_str:bts Tryz.prog 9=some 16:=by kernel_rfl
theorem app_len {o:List (List UInt8)} (h:o.length<=1048577):((List.map bs o).length+1) * 16<=140737488355328/\(List.map bs o).length<=9223372036854775806:=by
 rw [List.length_map]; omega
theorem i64_nat {n:Int} (h0:0<=n) (h:n<=1048578):I64 n:=by constructor<;>omega
theorem splitS_fn (s:List UInt8) (c:UInt8) (hl:s.length<=1048576):Fn Tryz.prog 57 [⟨.str,bs s⟩,⟨.str,bs [c]⟩] true [⟨.slice .str,(spl c s).map bs⟩]:=by
 refine fe Tryz.func57 Tryz.ntmps57 Tryz.results57 fun hwf=>?_
 try simp (maxSteps:=9^9) only[go_sem]
 refine LoopG.intro _ _ _ (fun y:Nat × Nat × List (List UInt8)=>⟨[(0,.sc (.string (bs s))),(1,.sc (.string (bs [c]))),(5,.row 5 0),(6,.sc (.int .i64 y.2.1)),(7,.sc (.int .i64 y.1))],[(5,.row 9 .str 0 true (y.2.2.map bs))]⟩) (fun y=>y.2.1<=y.1/\y.1<=s.length/\y.2.2.length<=y.2.1/\c ∉ (s.drop y.2.1).take (y.1 - y.2.1)/\y.2.2++spl c (s.drop y.2.1)=spl c s) (fun y=>s.length - y.1) (0,0,[]) ?_ ⟨Nat.le_refl _,Nat.zero_le _,Nat.le_refl _,by simp,rfl⟩ ?_
 ·refine Wk.mk [(5,0)] ?_
  try simp (maxSteps:=9^9) only[go_sem]
  try (and_intros<;>first|rfl|omega|exact ⟨_,rfl⟩)
 ·rintro ⟨i,f,o⟩ ⟨h1,h2,h3,h4,h5⟩
  dsimp only at h1 h2 h3 h4 h5
  try simp (maxSteps:=9^9) only[go_sem]
  refine CondW_dec (fun h6=>?_) (fun h6=>?_)
  ·have hi:i < s.length:=by omega
   try simp (maxSteps:=9^9) only[go_sem]
   refine LoopG.intro _ _ _ (fun k:Nat=>⟨[(0,.sc (.string (bs s))),(1,.sc (.string (bs [c]))),(5,.row 5 0),(6,.sc (.int .i64 f)),(7,.sc (.int .i64 i)),(8,.sc (.int .i64 k))],[(5,.row 9 .str 0 true (o.map bs))]⟩) (fun k=>k<=1/\(k=1->s.getD i 0 ≠ c)) (fun k=>1 - k) 0 ?_ ⟨by omega,fun h=>by cases h⟩ ?_
   ·exact WK
   ·rintro k ⟨k1,k2⟩
    try simp (maxSteps:=9^9) only[go_sem]
    refine CondW_dec (fun h7=>?_) (fun h7=>?_)
    ·obtain rfl:k=0:=by omega
     try simp (maxSteps:=9^9) only[go_sem]
     repeat refine AI ?_
     refine CondW_dec (fun h8=>?_) (fun h8=>?_)
     ·try simp (maxSteps:=9^9) only[go_sem]
      refine ⟨by omega,by omega,by omega,?_⟩
      try simp (maxSteps:=9^9) only[go_sem]
      refine ⟨(app_len (by omega)).1,(app_len (by omega)).2,i64_nat (by omega) (by omega),i64_nat (by omega) (by omega),?_⟩
      refine LoopK.mk (i+1,i+1,o++[(s.drop f).take (i - f)]) ?_ ?_ ?_
      ·refine Wk.mk [] ?_
       try simp (maxSteps:=9^9) only[go_sem]
       try (and_intros<;>first|rfl|omega|exact ⟨_,rfl⟩)
       exact ⟨by omega,by rw [List.map_append,List.drop_take]; rfl⟩
      ·refine ⟨Nat.le_refl _,by dsimp only; omega,by dsimp only; rw [List.length_append,List.length_singleton]; omega,by dsimp only; rw [Nat.sub_self]; exact List.not_mem_nil,?_⟩
       dsimp only
       rw [List.append_assoc,<-h5,spl_step h1 hi h4 (UInt8.toNat_inj.1 (by omega))]; rfl
      ·dsimp only; omega
     ·try simp (maxSteps:=9^9) only[go_sem]
      refine ⟨by constructor<;>decide,LoopK.mk 1 ?_ ⟨Nat.le_refl _,fun _ e=>h8 (by rw [e])⟩ (by decide)⟩
      exact WK
    ·obtain rfl:k=1:=by omega
     try simp (maxSteps:=9^9) only[go_sem]
     refine ⟨i64_nat (by omega) (by omega),LoopK.mk (i+1,f,o) ?_ ⟨by dsimp only; omega,by dsimp only; omega,h3,spl_keep h1 hi h4 (k2 rfl),h5⟩ (by dsimp only; omega)⟩
     exact WK
  ·obtain rfl:i=s.length:=by omega
   try simp (maxSteps:=9^9) only[go_sem]
   refine ⟨by omega,by omega,by omega,?_⟩
   try simp (maxSteps:=9^9) only[go_sem]
   refine ⟨(app_len (by omega)).1,(app_len (by omega)).2,?_⟩
   have hn:c ∉ s.drop f:=by
    rw [List.take_of_length_le (by rw [List.length_drop]; omega)] at h4; exact h4
   rw [spl_no hn] at h5
   rw [<-h5,List.map_append,List.take_length]; rfl
theorem fmtN_ne {l:List Int} (h:okNP l):fmtN l ≠ []:=fun e=>by
 have:=pN_fmt h
 rw [e,pN,if_neg (fun hp=>hp.1.1 rfl)] at this; cases this
theorem fmtB_ne {x:DB} (h:okB x=true):fmtB x ≠ []:=by
 unfold fmtB
 split
 ·intro e; cases e
 ·exact fmtN_ne (okB_N h).1
theorem fmtQ_ne {r:DR} (h:okR r=true):fmtQ r ≠ []:=by
 unfold fmtQ
 split
 ·exact fmtB_ne (okR_parts h).1
 ·intro e; exact fmtB_ne (okR_parts h).1 (List.append_eq_nil_iff.1 e).1
theorem fmtQ_inS {r:DR} (h:okR r=true) (hm:47 ∈ fmtQ r):bfr 47 (aft 47 (fmtQ r))=fmtN r.2:=by
 rw [(fmtQ_in h hm).2,bfr_no (fmtN_no (okNP_lbs (okN_P h)) (by decide))]
theorem pQ_no1 {s:List UInt8} (hm:47 ∈ s) (h:pB (bfr 47 s)=none\/pN (aft 47 s)=none):pQ s=none:=unF_none fun r hr e=>by
 subst e
 obtain ⟨a1,a2⟩:=fmtQ_in hr hm
 rw [a1,a2,pB_fmt (okR_parts hr).1,pN_fmt (okN_P hr)] at h
 rcases h with h|h<;>cases h
theorem pQ_no2 {s:List UInt8} {x:DB} {d:List Int} (hm:47 ∈ s) (hx:pB (bfr 47 s)=some x) (hd:pN (aft 47 s)=some d) (h:¬ (okR (x,d)=true/\fmtQ (x,d)=s)):pQ s=none:=unF_none fun r hr e=>by
 subst e
 obtain ⟨a1,a2⟩:=fmtQ_in hr hm
 rw [a1,pB_fmt (okR_parts hr).1] at hx
 rw [a2,pN_fmt (okN_P hr)] at hd
 cases hx; cases hd
 exact h ⟨hr,rfl⟩
theorem pQ_no3 {s:List UInt8} (hm:47 ∉ s) (h:pB s=none):pQ s=none:=unF_none fun r hr e=>by
 subst e
 obtain ⟨a1,a2⟩:=fmtQ_out hr hm
 rw [a1,pB_fmt (okR_parts hr).1] at h
 cases h
theorem pQ_no4 {s:List UInt8} {x:DB} (hm:47 ∉ s) (hx:pB s=some x) (h:¬ (okR (x,[1])=true/\fmtQ (x,[1])=s)):pQ s=none:=unF_none fun r hr e=>by
 subst e
 obtain ⟨a1,a2⟩:=fmtQ_out hr hm
 rw [a1,pB_fmt (okR_parts hr).1] at hx
 cases hx
 have e:(r.1,[1])=r:=by rw [<-a2]
 exact h ⟨by rw [e]; exact hr,by rw [e]⟩
theorem pQ_noS1 {s:List UInt8} (hm:47 ∈ s) (h:pB (bfr 47 s)=none\/pN (bfr 47 (aft 47 s))=none):pQ s=none:=unF_none fun r hr e=>by
 subst e
 rw [(fmtQ_in hr hm).1,fmtQ_inS hr hm,pB_fmt (okR_parts hr).1,pN_fmt (okN_P hr)] at h
 rcases h with h|h<;>cases h
theorem pQ_noS2 {s:List UInt8} {x:DB} {d:List Int} (hm:47 ∈ s) (hx:pB (bfr 47 s)=some x) (hd:pN (bfr 47 (aft 47 s))=some d) (h:¬ (okR (x,d)=true/\fmtQ (x,d)=s)):pQ s=none:=unF_none fun r hr e=>by
 subst e
 rw [(fmtQ_in hr hm).1,pB_fmt (okR_parts hr).1] at hx
 rw [fmtQ_inS hr hm,pN_fmt (okN_P hr)] at hd
 cases hx; cases hd
 exact h ⟨hr,rfl⟩
theorem pQ_yes {s:List UInt8} {r:DR} (h:okR r=true) (e:fmtQ r=s):pQ s=some r:=by rw [<-e]; exact pQ_some h
theorem parseBig_none {s:List UInt8} (hl:s.length<=1048576) (h:pB s=none):FnT Tryz.prog 121 [⟨.str,bs s⟩] [⟨tBig,(false,[])⟩,⟨.bool,false⟩]:=by
 have:=parseBig_fn s hl
 rw [h] at this
 exact this
theorem parseBig_some {s:List UInt8} {x:DB} (hl:s.length<=1048576) (h:pB s=some x):FnT Tryz.prog 121 [⟨.str,bs s⟩] [⟨tBig,x⟩,⟨.bool,true⟩]:=by
 have:=parseBig_fn s hl
 rw [h] at this
 exact this
theorem aft_len (c:UInt8) (s:List UInt8):(aft c s).length<=s.length:=by rw [aft,List.length_drop]; omega
theorem parseRat_in (s:List UInt8) (hm:47 ∈ s) (hl:s.length<=1048576):FnT Tryz.prog 90 [⟨.str,bs s⟩] [⟨tRat,(pQ s).getD ((false,[]),[])⟩,⟨.bool,(pQ s).isSome⟩]:=by
 have l1:(bfr 47 s).length<=1048576:=Nat.le_trans (bfr_len 47 s).1 hl
 have l2:(aft 47 s).length<=1048576:=Nat.le_trans (aft_len 47 s) hl
 cases hx:pB (bfr 47 s) with
 | none =>
  rw [pQ_no1 hm (.inl hx)]
  cases hd:pN (aft 47 s) with
  | none =>
   refine fnT_enter tabOK mixes Tryz.func90 rfl rfl _ Tryz.ntmps90 _ Tryz.results90 (by simp) fun hwf=>?_
   try simp (maxSteps:=9^9) only[go_sem]
   repeat refine AI ?_
   refine cw (cut_some s 47 hm hl) ?_
   try simp (maxSteps:=9^9) only[go_sem]
   repeat refine AI ?_
   refine CallW.to (parseBig_none l1 hx) ?_
   try simp (maxSteps:=9^9) only[go_sem]
   repeat refine AI ?_
   refine CallW.to (parseNat_none l2 hd) ?_
   try simp (maxSteps:=9^9) only[go_sem]
  | some d =>
   refine fnT_enter tabOK mixes Tryz.func90 rfl rfl _ Tryz.ntmps90 _ Tryz.results90 (by simp) fun hwf=>?_
   try simp (maxSteps:=9^9) only[go_sem]
   repeat refine AI ?_
   refine cw (cut_some s 47 hm hl) ?_
   try simp (maxSteps:=9^9) only[go_sem]
   repeat refine AI ?_
   refine CallW.to (parseBig_none l1 hx) ?_
   try simp (maxSteps:=9^9) only[go_sem]
   repeat refine AI ?_
   refine CallW.to (parseNat_some l2 hd) ?_
   try simp (maxSteps:=9^9) only[go_sem]
 | some x =>
  cases hd:pN (aft 47 s) with
  | none =>
   rw [pQ_no1 hm (.inr hd)]
   refine fnT_enter tabOK mixes Tryz.func90 rfl rfl _ Tryz.ntmps90 _ Tryz.results90 (by simp) fun hwf=>?_
   try simp (maxSteps:=9^9) only[go_sem]
   repeat refine AI ?_
   refine cw (cut_some s 47 hm hl) ?_
   try simp (maxSteps:=9^9) only[go_sem]
   repeat refine AI ?_
   refine CallW.to (parseBig_some l1 hx) ?_
   try simp (maxSteps:=9^9) only[go_sem]
   repeat refine AI ?_
   refine CallW.to (parseNat_none l2 hd) ?_
   try simp (maxSteps:=9^9) only[go_sem]
  | some d =>
   by_cases ho:okR (x,d)=true
   ·by_cases he:fmtQ (x,d)=s
    ·rw [pQ_yes ho he]
     refine fnT_enter tabOK mixes Tryz.func90 rfl rfl _ Tryz.ntmps90 _ Tryz.results90 (by simp) fun hwf=>?_
     try simp (maxSteps:=9^9) only[go_sem]
     repeat refine AI ?_
     refine cw (cut_some s 47 hm hl) ?_
     try simp (maxSteps:=9^9) only[go_sem]
     repeat refine AI ?_
     refine CallW.to (parseBig_some l1 hx) ?_
     try simp (maxSteps:=9^9) only[go_sem]
     repeat refine AI ?_
     refine CallW.to (parseNat_some l2 hd) ?_
     try simp (maxSteps:=9^9) only[go_sem]
     repeat refine AI ?_
     refine CallW.mx (implRatOk_fn (x,d)) ?_
     try simp (maxSteps:=9^9) only[go_sem]
     rw [ho]
     try simp (maxSteps:=9^9) only[go_sem]
     repeat refine AI ?_
     refine CallW.mx (formatRat_fn (x,d) ho) ?_
     try simp (maxSteps:=9^9) only[go_sem]
     refine CondW_not (fun h=>absurd he h) (fun _=>?_)
     try simp (maxSteps:=9^9) only[go_sem]
    ·rw [pQ_no2 hm hx hd fun h=>he h.2]
     refine fnT_enter tabOK mixes Tryz.func90 rfl rfl _ Tryz.ntmps90 _ Tryz.results90 (by simp) fun hwf=>?_
     try simp (maxSteps:=9^9) only[go_sem]
     repeat refine AI ?_
     refine cw (cut_some s 47 hm hl) ?_
     try simp (maxSteps:=9^9) only[go_sem]
     repeat refine AI ?_
     refine CallW.to (parseBig_some l1 hx) ?_
     try simp (maxSteps:=9^9) only[go_sem]
     repeat refine AI ?_
     refine CallW.to (parseNat_some l2 hd) ?_
     try simp (maxSteps:=9^9) only[go_sem]
     repeat refine AI ?_
     refine CallW.mx (implRatOk_fn (x,d)) ?_
     try simp (maxSteps:=9^9) only[go_sem]
     rw [ho]
     try simp (maxSteps:=9^9) only[go_sem]
     repeat refine AI ?_
     refine CallW.mx (formatRat_fn (x,d) ho) ?_
     try simp (maxSteps:=9^9) only[go_sem]
     refine CondW_not (fun _=>?_) (fun h=>absurd h he)
     try simp (maxSteps:=9^9) only[go_sem]
   ·rw [pQ_no2 hm hx hd fun h=>ho h.1]
    rw [Bool.not_eq_true] at ho
    refine fnT_enter tabOK mixes Tryz.func90 rfl rfl _ Tryz.ntmps90 _ Tryz.results90 (by simp) fun hwf=>?_
    try simp (maxSteps:=9^9) only[go_sem]
    repeat refine AI ?_
    refine cw (cut_some s 47 hm hl) ?_
    try simp (maxSteps:=9^9) only[go_sem]
    repeat refine AI ?_
    refine CallW.to (parseBig_some l1 hx) ?_
    try simp (maxSteps:=9^9) only[go_sem]
    repeat refine AI ?_
    refine CallW.to (parseNat_some l2 hd) ?_
    try simp (maxSteps:=9^9) only[go_sem]
    repeat refine AI ?_
    refine CallW.mx (implRatOk_fn (x,d)) ?_
    try simp (maxSteps:=9^9) only[go_sem]
    rw [ho]
    try simp (maxSteps:=9^9) only[go_sem]
theorem parseRat_out (s:List UInt8) (hm:47 ∉ s) (hl:s.length<=1048576):FnT Tryz.prog 90 [⟨.str,bs s⟩] [⟨tRat,(pQ s).getD ((false,[]),[])⟩,⟨.bool,(pQ s).isSome⟩]:=by
 cases hx:pB s with
 | none =>
  rw [pQ_no3 hm hx]
  refine fnT_enter tabOK mixes Tryz.func90 rfl rfl _ Tryz.ntmps90 _ Tryz.results90 (by simp) fun hwf=>?_
  try simp (maxSteps:=9^9) only[go_sem]
  repeat refine AI ?_
  refine cw (cut_none s 47 hm hl) ?_
  try simp (maxSteps:=9^9) only[go_sem]
  repeat refine AI ?_
  refine CallW.to (parseBig_none hl hx) ?_
  try simp (maxSteps:=9^9) only[go_sem]
 | some x =>
  by_cases ho:okR (x,[1])=true
  ·by_cases he:fmtQ (x,[1])=s
   ·rw [pQ_yes ho he]
    refine fnT_enter tabOK mixes Tryz.func90 rfl rfl _ Tryz.ntmps90 _ Tryz.results90 (by simp) fun hwf=>?_
    try simp (maxSteps:=9^9) only[go_sem]
    repeat refine AI ?_
    refine cw (cut_none s 47 hm hl) ?_
    try simp (maxSteps:=9^9) only[go_sem]
    repeat refine AI ?_
    refine CallW.to (parseBig_some hl hx) ?_
    try simp (maxSteps:=9^9) only[go_sem]
    repeat refine AI ?_
    refine CallW.mx (implRatOk_fn (x,[1])) ?_
    try simp (maxSteps:=9^9) only[go_sem]
    rw [ho]
    try simp (maxSteps:=9^9) only[go_sem]
    repeat refine AI ?_
    refine CallW.mx (formatRat_fn (x,[1]) ho) ?_
    try simp (maxSteps:=9^9) only[go_sem]
    refine CondW_not (fun h=>absurd he h) (fun _=>?_)
    try simp (maxSteps:=9^9) only[go_sem]
   ·rw [pQ_no4 hm hx fun h=>he h.2]
    refine fnT_enter tabOK mixes Tryz.func90 rfl rfl _ Tryz.ntmps90 _ Tryz.results90 (by simp) fun hwf=>?_
    try simp (maxSteps:=9^9) only[go_sem]
    repeat refine AI ?_
    refine cw (cut_none s 47 hm hl) ?_
    try simp (maxSteps:=9^9) only[go_sem]
    repeat refine AI ?_
    refine CallW.to (parseBig_some hl hx) ?_
    try simp (maxSteps:=9^9) only[go_sem]
    repeat refine AI ?_
    refine CallW.mx (implRatOk_fn (x,[1])) ?_
    try simp (maxSteps:=9^9) only[go_sem]
    rw [ho]
    try simp (maxSteps:=9^9) only[go_sem]
    repeat refine AI ?_
    refine CallW.mx (formatRat_fn (x,[1]) ho) ?_
    try simp (maxSteps:=9^9) only[go_sem]
    refine CondW_not (fun _=>?_) (fun h=>absurd h he)
    try simp (maxSteps:=9^9) only[go_sem]
  ·rw [pQ_no4 hm hx fun h=>ho h.1]
   rw [Bool.not_eq_true] at ho
   refine fnT_enter tabOK mixes Tryz.func90 rfl rfl _ Tryz.ntmps90 _ Tryz.results90 (by simp) fun hwf=>?_
   try simp (maxSteps:=9^9) only[go_sem]
   repeat refine AI ?_
   refine cw (cut_none s 47 hm hl) ?_
   try simp (maxSteps:=9^9) only[go_sem]
   repeat refine AI ?_
   refine CallW.to (parseBig_some hl hx) ?_
   try simp (maxSteps:=9^9) only[go_sem]
   repeat refine AI ?_
   refine CallW.mx (implRatOk_fn (x,[1])) ?_
   try simp (maxSteps:=9^9) only[go_sem]
   rw [ho]
   try simp (maxSteps:=9^9) only[go_sem]
theorem parseRat_fn (s:List UInt8) (hl:s.length<=1048576):FnT Tryz.prog 90 [⟨.str,bs s⟩] [⟨tRat,(pQ s).getD ((false,[]),[])⟩,⟨.bool,(pQ s).isSome⟩]:=by
 by_cases hm:47 ∈ s
 ·exact parseRat_in s hm hl
 ·exact parseRat_out s hm hl
theorem parseBigS_none {s:List UInt8} (hl:s.length<=1048576) (h:pB s=none):Fn Tryz.prog 118 [⟨.str,bs s⟩] false [⟨tBig,(false,[])⟩,⟨.bool,false⟩]:=by
 have:=parseBigS_fn s hl
 rw [h] at this
 exact this
theorem parseBigS_some {s:List UInt8} {x:DB} (hl:s.length<=1048576) (h:pB s=some x):Fn Tryz.prog 118 [⟨.str,bs s⟩] false [⟨tBig,x⟩,⟨.bool,true⟩]:=by
 have:=parseBigS_fn s hl
 rw [h] at this
 exact this
theorem splitS_no {s:List UInt8} {c:UInt8} (hl:s.length<=1048576) (h:c ∉ s):Fn Tryz.prog 57 [⟨.str,bs s⟩,⟨.str,bs [c]⟩] true [⟨.slice .str,[bs s]⟩]:=by
 have:=splitS_fn s c hl
 rw [spl_no h] at this
 exact this
theorem splitS_in {s:List UInt8} {c:UInt8} (hl:s.length<=1048576) (h:c ∈ s):∃ r:List ByteArray,Fn Tryz.prog 57 [⟨.str,bs s⟩,⟨.str,bs [c]⟩] true [⟨.slice .str,bs (bfr c s) :: bs (bfr c (aft c s)) :: r⟩]:=by
 have:=splitS_fn s c hl
 obtain ⟨r,e⟩:=spl_cons c (aft c s)
 rw [spl_in h,e] at this
 exact ⟨_,this⟩
theorem fmtRO_ok {r:DR} (h:okR r=true):Fn Tryz.prog 79 [⟨tRat,r⟩] false [⟨.str,bs (fmtQ r)⟩]:=by
 have:=formatRatS_fn r
 rw [show fmtRO r=fmtQ r from if_pos h] at this
 exact this
theorem fmtRO_no {r:DR} (h:¬ okR r=true):Fn Tryz.prog 79 [⟨tRat,r⟩] false [⟨.str,bs []⟩]:=by
 have:=formatRatS_fn r
 rw [show fmtRO r=[] from if_neg h] at this
 exact this
theorem parseRatS_in (s:List UInt8) (hm:47 ∈ s) (hl:s.length<=1048576):Fn Tryz.prog 87 [⟨.str,bs s⟩] false [⟨tRat,(pQ s).getD ((false,[]),[])⟩,⟨.bool,(pQ s).isSome⟩]:=by
 have l1:(bfr 47 s).length<=1048576:=Nat.le_trans (bfr_len 47 s).1 hl
 have l3:(bfr 47 (aft 47 s)).length<=1048576:=Nat.le_trans (bfr_len 47 _).1 (Nat.le_trans (aft_len 47 s) hl)
 obtain ⟨r,c1⟩:=splitS_in hl hm
 have hr:(1:Int) < ((r.length+1+1:Nat):Int):=by omega
 cases hx:pB (bfr 47 s) with
 | none =>
  rw [pQ_noS1 hm (.inl hx)]
  refine fe Tryz.func87 Tryz.ntmps87 Tryz.results87 fun hwf=>?_
  try simp (maxSteps:=9^9) only[go_sem]
  repeat refine AI ?_
  refine cw c1 ?_
  try simp (maxSteps:=9^9) only[go_sem]
  repeat refine AI ?_
  refine cw (parseBigS_none l1 hx) ?_
  try simp (maxSteps:=9^9) only[go_sem]
  refine ⟨rfl,CondW_dec (fun _=>?_) (fun h=>absurd hr h)⟩
  try simp (maxSteps:=9^9) only[go_sem]
  refine ⟨by omega,CallW.mk (parseNatS_fn (bfr 47 (aft 47 s)) l3) ?_⟩
  try simp (maxSteps:=9^9) only[go_sem]
  rfl
 | some x =>
  cases hd:pN (bfr 47 (aft 47 s)) with
  | none =>
   rw [pQ_noS1 hm (.inr hd)]
   refine fe Tryz.func87 Tryz.ntmps87 Tryz.results87 fun hwf=>?_
   try simp (maxSteps:=9^9) only[go_sem]
   repeat refine AI ?_
   refine cw c1 ?_
   try simp (maxSteps:=9^9) only[go_sem]
   repeat refine AI ?_
   refine cw (parseBigS_some l1 hx) ?_
   try simp (maxSteps:=9^9) only[go_sem]
   refine ⟨rfl,CondW_dec (fun _=>?_) (fun h=>absurd hr h)⟩
   try simp (maxSteps:=9^9) only[go_sem]
   refine ⟨by omega,CallW.mk (parseNatS_none l3 hd) ?_⟩
   try simp (maxSteps:=9^9) only[go_sem]
   rfl
  | some d =>
   by_cases ho:okR (x,d)=true
   ·have hne:=fmtQ_ne ho
    by_cases he:fmtQ (x,d)=s
    ·rw [pQ_yes ho he]
     refine fe Tryz.func87 Tryz.ntmps87 Tryz.results87 fun hwf=>?_
     try simp (maxSteps:=9^9) only[go_sem]
     repeat refine AI ?_
     refine cw c1 ?_
     try simp (maxSteps:=9^9) only[go_sem]
     repeat refine AI ?_
     refine cw (parseBigS_some l1 hx) ?_
     try simp (maxSteps:=9^9) only[go_sem]
     refine ⟨rfl,CondW_dec (fun _=>?_) (fun h=>absurd hr h)⟩
     try simp (maxSteps:=9^9) only[go_sem]
     refine ⟨by omega,CallW.mk (parseNatS_some l3 hd) ?_⟩
     try simp (maxSteps:=9^9) only[go_sem]
     refine ⟨rfl,?_⟩
     try simp (maxSteps:=9^9) only[go_sem]
     repeat refine AI ?_
     refine cw (fmtRO_ok ho) ?_
     try simp (maxSteps:=9^9) only[go_sem]
     try simp (maxSteps:=9^9) only[go_sem,hne]
     repeat refine AI ?_
     refine cw (fmtRO_ok ho) ?_
     try simp (maxSteps:=9^9) only[go_sem]
     refine CondW_not (fun h=>absurd he h) (fun _=>?_)
     try simp (maxSteps:=9^9) only[go_sem]
    ·rw [pQ_noS2 hm hx hd fun h=>he h.2]
     refine fe Tryz.func87 Tryz.ntmps87 Tryz.results87 fun hwf=>?_
     try simp (maxSteps:=9^9) only[go_sem]
     repeat refine AI ?_
     refine cw c1 ?_
     try simp (maxSteps:=9^9) only[go_sem]
     repeat refine AI ?_
     refine cw (parseBigS_some l1 hx) ?_
     try simp (maxSteps:=9^9) only[go_sem]
     refine ⟨rfl,CondW_dec (fun _=>?_) (fun h=>absurd hr h)⟩
     try simp (maxSteps:=9^9) only[go_sem]
     refine ⟨by omega,CallW.mk (parseNatS_some l3 hd) ?_⟩
     try simp (maxSteps:=9^9) only[go_sem]
     refine ⟨rfl,?_⟩
     try simp (maxSteps:=9^9) only[go_sem]
     repeat refine AI ?_
     refine cw (fmtRO_ok ho) ?_
     try simp (maxSteps:=9^9) only[go_sem]
     try simp (maxSteps:=9^9) only[go_sem,hne]
     repeat refine AI ?_
     refine cw (fmtRO_ok ho) ?_
     try simp (maxSteps:=9^9) only[go_sem]
     refine CondW_not (fun _=>?_) (fun h=>absurd h he)
     try simp (maxSteps:=9^9) only[go_sem]
   ·rw [pQ_noS2 hm hx hd fun h=>ho h.1]
    refine fe Tryz.func87 Tryz.ntmps87 Tryz.results87 fun hwf=>?_
    try simp (maxSteps:=9^9) only[go_sem]
    repeat refine AI ?_
    refine cw c1 ?_
    try simp (maxSteps:=9^9) only[go_sem]
    repeat refine AI ?_
    refine cw (parseBigS_some l1 hx) ?_
    try simp (maxSteps:=9^9) only[go_sem]
    refine ⟨rfl,CondW_dec (fun _=>?_) (fun h=>absurd hr h)⟩
    try simp (maxSteps:=9^9) only[go_sem]
    refine ⟨by omega,CallW.mk (parseNatS_some l3 hd) ?_⟩
    try simp (maxSteps:=9^9) only[go_sem]
    refine ⟨rfl,?_⟩
    try simp (maxSteps:=9^9) only[go_sem]
    repeat refine AI ?_
    refine cw (fmtRO_no ho) ?_
    try simp (maxSteps:=9^9) only[go_sem]
theorem parseRatS_out (s:List UInt8) (hm:47 ∉ s) (hl:s.length<=1048576):Fn Tryz.prog 87 [⟨.str,bs s⟩] false [⟨tRat,(pQ s).getD ((false,[]),[])⟩,⟨.bool,(pQ s).isSome⟩]:=by
 have c1:=splitS_no hl hm
 cases hx:pB s with
 | none =>
  rw [pQ_no3 hm hx]
  refine fe Tryz.func87 Tryz.ntmps87 Tryz.results87 fun hwf=>?_
  try simp (maxSteps:=9^9) only[go_sem]
  repeat refine AI ?_
  refine cw c1 ?_
  try simp (maxSteps:=9^9) only[go_sem]
  repeat refine AI ?_
  refine cw (parseBigS_none hl hx) ?_
  try simp (maxSteps:=9^9) only[go_sem]
  refine ⟨rfl,CondW_dec (fun h=>absurd h (by omega)) (fun _=>?_)⟩
  try simp (maxSteps:=9^9) only[go_sem]
 | some x =>
  by_cases ho:okR (x,[1])=true
  ·have hne:=fmtQ_ne ho
   by_cases he:fmtQ (x,[1])=s
   ·rw [pQ_yes ho he]
    refine fe Tryz.func87 Tryz.ntmps87 Tryz.results87 fun hwf=>?_
    try simp (maxSteps:=9^9) only[go_sem]
    repeat refine AI ?_
    refine cw c1 ?_
    try simp (maxSteps:=9^9) only[go_sem]
    repeat refine AI ?_
    refine cw (parseBigS_some hl hx) ?_
    try simp (maxSteps:=9^9) only[go_sem]
    refine ⟨rfl,CondW_dec (fun h=>absurd h (by omega)) (fun _=>?_)⟩
    try simp (maxSteps:=9^9) only[go_sem]
    repeat refine AI ?_
    refine cw (fmtRO_ok ho) ?_
    try simp (maxSteps:=9^9) only[go_sem]
    try simp (maxSteps:=9^9) only[go_sem,hne]
    repeat refine AI ?_
    refine cw (fmtRO_ok ho) ?_
    try simp (maxSteps:=9^9) only[go_sem]
    refine CondW_not (fun h=>absurd he h) (fun _=>?_)
    try simp (maxSteps:=9^9) only[go_sem]
   ·rw [pQ_no4 hm hx fun h=>he h.2]
    refine fe Tryz.func87 Tryz.ntmps87 Tryz.results87 fun hwf=>?_
    try simp (maxSteps:=9^9) only[go_sem]
    repeat refine AI ?_
    refine cw c1 ?_
    try simp (maxSteps:=9^9) only[go_sem]
    repeat refine AI ?_
    refine cw (parseBigS_some hl hx) ?_
    try simp (maxSteps:=9^9) only[go_sem]
    refine ⟨rfl,CondW_dec (fun h=>absurd h (by omega)) (fun _=>?_)⟩
    try simp (maxSteps:=9^9) only[go_sem]
    repeat refine AI ?_
    refine cw (fmtRO_ok ho) ?_
    try simp (maxSteps:=9^9) only[go_sem]
    try simp (maxSteps:=9^9) only[go_sem,hne]
    repeat refine AI ?_
    refine cw (fmtRO_ok ho) ?_
    try simp (maxSteps:=9^9) only[go_sem]
    refine CondW_not (fun _=>?_) (fun h=>absurd h he)
    try simp (maxSteps:=9^9) only[go_sem]
  ·rw [pQ_no4 hm hx fun h=>ho h.1]
   refine fe Tryz.func87 Tryz.ntmps87 Tryz.results87 fun hwf=>?_
   try simp (maxSteps:=9^9) only[go_sem]
   repeat refine AI ?_
   refine cw c1 ?_
   try simp (maxSteps:=9^9) only[go_sem]
   repeat refine AI ?_
   refine cw (parseBigS_some hl hx) ?_
   try simp (maxSteps:=9^9) only[go_sem]
   refine ⟨rfl,CondW_dec (fun h=>absurd h (by omega)) (fun _=>?_)⟩
   try simp (maxSteps:=9^9) only[go_sem]
   repeat refine AI ?_
   refine cw (fmtRO_no ho) ?_
   try simp (maxSteps:=9^9) only[go_sem]
theorem parseRatS_fn (s:List UInt8) (hl:s.length<=1048576):Fn Tryz.prog 87 [⟨.str,bs s⟩] false [⟨tRat,(pQ s).getD ((false,[]),[])⟩,⟨.bool,(pQ s).isSome⟩]:=by
 by_cases hm:47 ∈ s
 ·exact parseRatS_in s hm hl
 ·exact parseRatS_out s hm hl
theorem pP_no1 {s:List UInt8} (hm:44 ∉ s):pP s=none:=by rw [pP_eq,if_neg hm]
theorem pP_no2 {s:List UInt8} (h:pQ (bfr 44 s)=none):pP s=none:=by
 rw [pP_eq]
 split
 ·rw [h]
 ·rfl
theorem pP_no3 {s:List UInt8} (h:pQ (aft 44 s)=none):pP s=none:=by
 rw [pP_eq]
 split
 ·rw [h]; cases pQ (bfr 44 s)<;>rfl
 ·rfl
theorem pP_yes {s:List UInt8} {x y:DR} (hm:44 ∈ s) (hx:pQ (bfr 44 s)=some x) (hy:pQ (aft 44 s)=some y):pP s=some (x,y):=by rw [pP_eq,if_pos hm,hx,hy]
theorem parseRat_none {s:List UInt8} (hl:s.length<=1048576) (h:pQ s=none):FnT Tryz.prog 90 [⟨.str,bs s⟩] [⟨tRat,((false,[]),[])⟩,⟨.bool,false⟩]:=by
 have:=parseRat_fn s hl
 rw [h] at this
 exact this
theorem parseRat_some {s:List UInt8} {x:DR} (hl:s.length<=1048576) (h:pQ s=some x):FnT Tryz.prog 90 [⟨.str,bs s⟩] [⟨tRat,x⟩,⟨.bool,true⟩]:=by
 have:=parseRat_fn s hl
 rw [h] at this
 exact this
theorem parsePoint_fn (s:List UInt8) (hl:s.length<=1048576):FnT Tryz.prog 61 [⟨.str,bs s⟩] [⟨tPoint,(pP s).getD (((false,[]),[]),((false,[]),[]))⟩,⟨.bool,(pP s).isSome⟩]:=by
 have l1:(bfr 44 s).length<=1048576:=Nat.le_trans (bfr_len 44 s).1 hl
 have l2:(aft 44 s).length<=1048576:=Nat.le_trans (aft_len 44 s) hl
 by_cases hm:44 ∈ s
 ·cases hx:pQ (bfr 44 s) with
  | none =>
   rw [pP_no2 hx]
   refine fnT_enter tabOK mixes Tryz.func61 rfl rfl _ Tryz.ntmps61 _ Tryz.results61 (by simp) fun hwf=>?_
   try simp (maxSteps:=9^9) only[go_sem]
   repeat refine AI ?_
   refine cw (cut_some s 44 hm hl) ?_
   try simp (maxSteps:=9^9) only[go_sem]
   repeat refine AI ?_
   refine CallW.to (parseRat_none l1 hx) ?_
   try simp (maxSteps:=9^9) only[go_sem]
   repeat refine AI ?_
   refine CallW.to (parseRat_fn (aft 44 s) l2) ?_
   try simp (maxSteps:=9^9) only[go_sem]
  | some x =>
   cases hy:pQ (aft 44 s) with
   | none =>
    rw [pP_no3 hy]
    refine fnT_enter tabOK mixes Tryz.func61 rfl rfl _ Tryz.ntmps61 _ Tryz.results61 (by simp) fun hwf=>?_
    try simp (maxSteps:=9^9) only[go_sem]
    repeat refine AI ?_
    refine cw (cut_some s 44 hm hl) ?_
    try simp (maxSteps:=9^9) only[go_sem]
    repeat refine AI ?_
    refine CallW.to (parseRat_some l1 hx) ?_
    try simp (maxSteps:=9^9) only[go_sem]
    repeat refine AI ?_
    refine CallW.to (parseRat_none l2 hy) ?_
    try simp (maxSteps:=9^9) only[go_sem]
   | some y =>
    rw [pP_yes hm hx hy]
    refine fnT_enter tabOK mixes Tryz.func61 rfl rfl _ Tryz.ntmps61 _ Tryz.results61 (by simp) fun hwf=>?_
    try simp (maxSteps:=9^9) only[go_sem]
    repeat refine AI ?_
    refine cw (cut_some s 44 hm hl) ?_
    try simp (maxSteps:=9^9) only[go_sem]
    repeat refine AI ?_
    refine CallW.to (parseRat_some l1 hx) ?_
    try simp (maxSteps:=9^9) only[go_sem]
    repeat refine AI ?_
    refine CallW.to (parseRat_some l2 hy) ?_
    try simp (maxSteps:=9^9) only[go_sem]
 ·rw [pP_no1 hm]
  refine fnT_enter tabOK mixes Tryz.func61 rfl rfl _ Tryz.ntmps61 _ Tryz.results61 (by simp) fun hwf=>?_
  try simp (maxSteps:=9^9) only[go_sem]
  repeat refine AI ?_
  refine cw (cut_none s 44 hm hl) ?_
  try simp (maxSteps:=9^9) only[go_sem]
  repeat refine AI ?_
  refine CallW.to (parseRat_fn s hl) ?_
  try simp (maxSteps:=9^9) only[go_sem]
  repeat refine AI ?_
  refine CallW.to (parseRat_fn [] (by decide)) ?_
  try simp (maxSteps:=9^9) only[go_sem]
theorem parseRatS_none {s:List UInt8} (hl:s.length<=1048576) (h:pQ s=none):Fn Tryz.prog 87 [⟨.str,bs s⟩] false [⟨tRat,((false,[]),[])⟩,⟨.bool,false⟩]:=by
 have:=parseRatS_fn s hl
 rw [h] at this
 exact this
theorem parseRatS_some {s:List UInt8} {x:DR} (hl:s.length<=1048576) (h:pQ s=some x):Fn Tryz.prog 87 [⟨.str,bs s⟩] false [⟨tRat,x⟩,⟨.bool,true⟩]:=by
 have:=parseRatS_fn s hl
 rw [h] at this
 exact this
theorem splitS_two {s:List UInt8} {c:UInt8} (hl:s.length<=1048576) (h:c ∈ s) (h2:c ∉ aft c s):Fn Tryz.prog 57 [⟨.str,bs s⟩,⟨.str,bs [c]⟩] true [⟨.slice .str,[bs (bfr c s),bs (aft c s)]⟩]:=by
 have:=splitS_fn s c hl
 rw [spl_in h,spl_no h2] at this
 exact this
theorem splitS_more {s:List UInt8} {c:UInt8} (hl:s.length<=1048576) (h:c ∈ s) (h2:c ∈ aft c s):∃ y:List ByteArray,3<=y.length/\y.length<=1048577/\Fn Tryz.prog 57 [⟨.str,bs s⟩,⟨.str,bs [c]⟩] true [⟨.slice .str,y⟩]:=by
 refine ⟨_,?_,?_,splitS_fn s c hl⟩
 ·obtain ⟨r,e⟩:=spl_cons c (aft c (aft c s))
  rw [spl_in h,spl_in h2,e]
  simp
 ·rw [List.length_map]
  exact Nat.le_trans (spl_len c s) (by omega)
theorem pP_no4 {s:List UInt8} (h2:44 ∈ aft 44 s):pP s=none:=unF_none fun p hp e=>by
 subst e
 rw [(fmtP_in hp).2.2] at h2
 exact fmtQ_no (okPt_parts hp).2 (c:=44) (by decide) (by decide) (by decide) h2
theorem parsePointS_fn (s:List UInt8) (hl:s.length<=1048576):Fn Tryz.prog 58 [⟨.str,bs s⟩] false [⟨tPoint,(pP s).getD (((false,[]),[]),((false,[]),[]))⟩,⟨.bool,(pP s).isSome⟩]:=by
 have l1:(bfr 44 s).length<=1048576:=Nat.le_trans (bfr_len 44 s).1 hl
 have l2:(aft 44 s).length<=1048576:=Nat.le_trans (aft_len 44 s) hl
 by_cases hm:44 ∈ s
 ·by_cases h2:44 ∈ aft 44 s
  ·rw [pP_no4 h2]
   obtain ⟨y,y1,y2,c1⟩:=splitS_more hl hm h2
   have y3:¬ (y.length:Int)=2:=by omega
   refine fe Tryz.func58 Tryz.ntmps58 Tryz.results58 fun hwf=>?_
   try simp (maxSteps:=9^9) only[go_sem]
   repeat refine AI ?_
   refine cw c1 ?_
   try simp (maxSteps:=9^9) only[go_sem]
   try simp (maxSteps:=9^9) only[go_sem,y3]
  ·cases hx:pQ (bfr 44 s) with
   | none =>
    rw [pP_no2 hx]
    refine fe Tryz.func58 Tryz.ntmps58 Tryz.results58 fun hwf=>?_
    try simp (maxSteps:=9^9) only[go_sem]
    repeat refine AI ?_
    refine cw (splitS_two hl hm h2) ?_
    try simp (maxSteps:=9^9) only[go_sem]
    refine CondW_not (fun h=>absurd rfl h) (fun _=>?_)
    try simp (maxSteps:=9^9) only[go_sem]
    repeat refine AI ?_
    refine cw (parseRatS_none l1 hx) ?_
    try simp (maxSteps:=9^9) only[go_sem]
    refine ⟨rfl,by omega,CallW.mk (parseRatS_fn (aft 44 s) l2) ?_⟩
    try simp (maxSteps:=9^9) only[go_sem]
    rfl
   | some x =>
    cases hy:pQ (aft 44 s) with
    | none =>
     rw [pP_no3 hy]
     refine fe Tryz.func58 Tryz.ntmps58 Tryz.results58 fun hwf=>?_
     try simp (maxSteps:=9^9) only[go_sem]
     repeat refine AI ?_
     refine cw (splitS_two hl hm h2) ?_
     try simp (maxSteps:=9^9) only[go_sem]
     refine CondW_not (fun h=>absurd rfl h) (fun _=>?_)
     try simp (maxSteps:=9^9) only[go_sem]
     repeat refine AI ?_
     refine cw (parseRatS_some l1 hx) ?_
     try simp (maxSteps:=9^9) only[go_sem]
     refine ⟨rfl,by omega,CallW.mk (parseRatS_none l2 hy) ?_⟩
     try simp (maxSteps:=9^9) only[go_sem]
     rfl
    | some y =>
     rw [pP_yes hm hx hy]
     refine fe Tryz.func58 Tryz.ntmps58 Tryz.results58 fun hwf=>?_
     try simp (maxSteps:=9^9) only[go_sem]
     repeat refine AI ?_
     refine cw (splitS_two hl hm h2) ?_
     try simp (maxSteps:=9^9) only[go_sem]
     refine CondW_not (fun h=>absurd rfl h) (fun _=>?_)
     try simp (maxSteps:=9^9) only[go_sem]
     repeat refine AI ?_
     refine cw (parseRatS_some l1 hx) ?_
     try simp (maxSteps:=9^9) only[go_sem]
     refine ⟨rfl,by omega,CallW.mk (parseRatS_some l2 hy) ?_⟩
     try simp (maxSteps:=9^9) only[go_sem]
     rfl
 ·rw [pP_no1 hm]
  refine fe Tryz.func58 Tryz.ntmps58 Tryz.results58 fun hwf=>?_
  try simp (maxSteps:=9^9) only[go_sem]
  repeat refine AI ?_
  refine cw (splitS_no hl hm) ?_
  try simp (maxSteps:=9^9) only[go_sem]
  refine CondW_not (fun _=>?_) (fun h=>absurd h (by omega))
  try simp (maxSteps:=9^9) only[go_sem]
theorem pP_some {p:DP} (h:okPt p=true):pP (fmtP p)=some p:=unF_some (fun _ _=>fmtP_inj) h rfl
theorem parsePoint_none {s:List UInt8} (hl:s.length<=1048576) (h:pP s=none):FnT Tryz.prog 61 [⟨.str,bs s⟩] [⟨tPoint,(((false,[]),[]),((false,[]),[]))⟩,⟨.bool,false⟩]:=by
 have:=parsePoint_fn s hl
 rw [h] at this
 exact this
theorem parsePoint_some {s:List UInt8} {q:DP} (hl:s.length<=1048576) (h:pP s=some q):FnT Tryz.prog 61 [⟨.str,bs s⟩] [⟨tPoint,q⟩,⟨.bool,true⟩]:=by
 have:=parsePoint_fn s hl
 rw [h] at this
 exact this
theorem parsePointS_some {s:List UInt8} {q:DP} (hl:s.length<=1048576) (h:(pP s).getD (((false,[]),[]),((false,[]),[]))=q):∃ b:Bool,Fn Tryz.prog 58 [⟨.str,bs s⟩] false [⟨tPoint,q⟩,⟨.bool,b⟩]:=by
 have:=parsePointS_fn s hl
 rw [h] at this
 exact ⟨_,this⟩
def okS (p:Int × DP):Prop:=(-1<=p.1/\p.1<=1)/\okPt p.2=true
noncomputable def pS (s:List UInt8):Option (Int × DP):=unF okS fmtS s
theorem fmtS_ok {p:Int × DP} (h:okS p):fmtS p=wrd p.1++32 :: fmtP p.2:=if_pos h
theorem fmtS_of {p:Int × DP} (h:fmtS p ≠ []):okS p:=by
 by_cases ho:okS p
 ·exact ho
 ·exact absurd (if_neg ho) h
theorem wrd_cases {h:Int} (h0:-1<=h/\h<=1):h=-1\/h=0\/h=1:=by omega
theorem wrd_no {h:Int} (h0:-1<=h/\h<=1):(32:UInt8) ∉ wrd h:=by
 rcases wrd_cases h0 with rfl|rfl|rfl<;>decide
def wix (w:List UInt8):Int:=if w=[114,105,103,104,116] then 0 else if w=[109,111,118,101] then 1 else if w=[108,101,102,116] then 2 else -1
theorem wrd_ix {h:Int} (h0:-1<=h/\h<=1):wix (wrd h)=h+1:=by
 rcases wrd_cases h0 with rfl|rfl|rfl<;>rfl
theorem ix_wrd (w:List UInt8):(∃ h:Int,(-1<=h/\h<=1)/\wrd h=w/\wix w=h+1)\/wix w=-1:=by
 by_cases h1:w=[114,105,103,104,116]
 ·exact .inl ⟨-1,by omega,by rw [h1]; rfl,by rw [h1]; rfl⟩
 by_cases h2:w=[109,111,118,101]
 ·exact .inl ⟨0,by omega,by rw [h2]; rfl,by rw [h2]; rfl⟩
 by_cases h3:w=[108,101,102,116]
 ·exact .inl ⟨1,by omega,by rw [h3]; rfl,by rw [h3]; rfl⟩
 exact .inr (by rw [wix,if_neg h1,if_neg h2,if_neg h3])
theorem fmtS_in {p:Int × DP} (h:okS p):32 ∈ fmtS p/\bfr 32 (fmtS p)=wrd p.1/\aft 32 (fmtS p)=fmtP p.2/\32 ∉ fmtP p.2:=by
 rw [fmtS_ok h]
 exact ⟨List.mem_append_right _ List.mem_cons_self,bfr_app (wrd_no h.1),aft_app (wrd_no h.1),fmtP_no h.2 (by decide) (by decide) (by decide) (by decide)⟩
theorem wrd_inj {h k:Int} (h0:-1<=h/\h<=1) (k0:-1<=k/\k<=1) (e:wrd h=wrd k):h=k:=by
 have a:=wrd_ix h0
 have b:=wrd_ix k0
 rw [e] at a
 omega
theorem fmtS_inj {p q:Int × DP} (h:okS p) (h':okS q) (e:fmtS p=fmtS q):p=q:=by
 obtain ⟨_,a1,a2,_⟩:=fmtS_in h
 obtain ⟨_,b1,b2,_⟩:=fmtS_in h'
 rw [e] at a1 a2
 exact Prod.ext (wrd_inj h.1 h'.1 (a1.symm.trans b1)) (fmtP_inj h.2 h'.2 (a2.symm.trans b2))
theorem pS_no1 {s:List UInt8} (hm:32 ∉ s):pS s=none:=unF_none fun p hp e=>hm (by rw [<-e]; exact (fmtS_in hp).1)
theorem pS_no3 {s:List UInt8} (h:pP (aft 32 s)=none):pS s=none:=unF_none fun p hp e=>by
 rw [<-e,(fmtS_in hp).2.2.1,pP_some hp.2] at h; cases h
theorem pS_no4 {s:List UInt8} (h:wix (bfr 32 s)=-1):pS s=none:=unF_none fun p hp e=>by
 rw [<-e,(fmtS_in hp).2.1,wrd_ix hp.1] at h
 have:=hp.1.1
 omega
theorem pS_no5 {s:List UInt8} (h:32 ∈ aft 32 s):pS s=none:=unF_none fun p hp e=>by
 rw [<-e,(fmtS_in hp).2.2.1] at h
 exact (fmtS_in hp).2.2.2 h
theorem pS_yes {s:List UInt8} {h:Int} {q:DP} (hm:32 ∈ s) (hh:-1<=h/\h<=1) (hc:wrd h=bfr 32 s) (hq:pP (aft 32 s)=some q):pS s=some (h,q):=by
 obtain ⟨q1,q2⟩:=unF_eq hq
 have ho:okS (h,q):=⟨hh,q1⟩
 refine unF_some (fun _ _=>fmtS_inj) ho ?_
 rw [fmtS_ok ho,hc,q2]
 exact (bfr_aft hm).symm
def wn (k:Nat):List UInt8:=if k=0 then [114,105,103,104,116] else if k=1 then [109,111,118,101] else [108,101,102,116]
theorem nth_wn {k:Nat} (h:k < 3):@nth .str [bs [114,105,103,104,116],bs [109,111,118,101],bs [108,101,102,116]] k=bs (wn k):=by
 obtain rfl|rfl|rfl:k=0\/k=1\/k=2:=by omega
 all_goals rfl
theorem wix_at {w:List UInt8} {k:Nat} (hk:k < 3) (h:∀ j:Nat,j < k->wn j ≠ w) (e:w=wn k):wix w=k:=by
 subst e
 obtain rfl|rfl|rfl:k=0\/k=1\/k=2:=by omega
 all_goals rfl
theorem wix_end {w:List UInt8} (h:∀ j:Nat,j < 3->wn j ≠ w):wix w=-1:=by
 rw [wix,if_neg (fun e=>h 0 (by omega) e.symm),if_neg (fun e=>h 1 (by omega) e.symm),if_neg (fun e=>h 2 (by omega) e.symm)]
theorem wIndex_fn (w:List UInt8):Fn Tryz.prog 64 [⟨.slice .str,[bs [114,105,103,104,116],bs [109,111,118,101],bs [108,101,102,116]]⟩,⟨.str,bs w⟩] false [⟨.int,wix w⟩]:=by
 refine fe Tryz.func64 Tryz.ntmps64 Tryz.results64 fun hwf=>?_
 try simp (maxSteps:=9^9) only[go_sem]
 refine LoopG.intro _ _ _ (fun k:Nat=>⟨[(0,.sl .str [bs [114,105,103,104,116],bs [109,111,118,101],bs [108,101,102,116]]),(1,.sc (.string (bs w))),(7,.sc (.int .i64 3)),(8,.sc (.int .i64 k))],[]⟩) (fun k=>k<=3/\∀ j:Nat,j < k->wn j ≠ w) (fun k=>3 - k) 0 ?_ ⟨by omega,fun j h=>absurd h (by omega)⟩ ?_
 ·exact WK
 ·rintro k ⟨k1,k2⟩
  try simp (maxSteps:=9^9) only[go_sem]
  refine CondW_dec (fun h4=>?_) (fun h4=>?_)
  ·have hk:k < 3:=by omega
   try simp (maxSteps:=9^9) only[go_sem]
   refine ⟨by omega,h4,?_⟩
   rw [nth_wn hk]
   try simp (maxSteps:=9^9) only[go_sem]
   refine CondW_dec (fun he=>?_) (fun he=>?_)
   ·rw [wix_at hk k2 he]
    try simp (maxSteps:=9^9) only[go_sem]
   ·try simp (maxSteps:=9^9) only[go_sem]
    refine ⟨by constructor<;>omega,LoopK.mk (k+1) ?_ ⟨by omega,fun j hj e=>?_⟩ (by omega)⟩
    ·exact WK
    ·by_cases hjk:j=k
     ·subst hjk; exact he e.symm
     ·exact k2 j (by omega) e
  ·obtain rfl:k=3:=by omega
   rw [wix_end k2]
   try simp (maxSteps:=9^9) only[go_sem]
theorem parseStep_fn (s:List UInt8) (hl:s.length<=1048576):FnT Tryz.prog 30 [⟨.str,bs s⟩] [⟨tStep,(pS s).getD (0,(((false,[]),[]),((false,[]),[])))⟩,⟨.bool,(pS s).isSome⟩]:=by
 have l2:(aft 32 s).length<=1048576:=Nat.le_trans (aft_len 32 s) hl
 by_cases hm:32 ∈ s
 ·have c1:=wIndex_fn (bfr 32 s)
  cases hq:pP (aft 32 s) with
  | none =>
   rw [pS_no3 hq]
   refine fnT_enter tabOK mixes Tryz.func30 rfl rfl _ Tryz.ntmps30 _ Tryz.results30 (by simp) fun hwf=>?_
   try simp (maxSteps:=9^9) only[go_sem]
   repeat refine AI ?_
   refine cw (cut_some s 32 hm hl) ?_
   try simp (maxSteps:=9^9) only[go_sem]
   repeat refine AI ?_
   refine cw stepWords_fn ?_
   try simp (maxSteps:=9^9) only[go_sem]
   repeat refine AI ?_
   refine cw c1 ?_
   try simp (maxSteps:=9^9) only[go_sem]
   repeat refine AI ?_
   refine CallW.to (parsePoint_none l2 hq) ?_
   try simp (maxSteps:=9^9) only[go_sem]
   refine GuardW_decf (fun h=>?_) (fun h=>?_)
   ·try simp (maxSteps:=9^9) only[go_sem]
   ·try simp (maxSteps:=9^9) only[go_sem]
  | some q =>
   rcases ix_wrd (bfr 32 s) with ⟨k,k1,k2,k3⟩|k3
   ·rw [pS_yes hm k1 k2 hq]
    rw [k3] at c1
    have g4:¬ k+1 < 0:=by omega
    refine fnT_enter tabOK mixes Tryz.func30 rfl rfl _ Tryz.ntmps30 _ Tryz.results30 (by simp) fun hwf=>?_
    try simp (maxSteps:=9^9) only[go_sem]
    repeat refine AI ?_
    refine cw (cut_some s 32 hm hl) ?_
    try simp (maxSteps:=9^9) only[go_sem]
    repeat refine AI ?_
    refine cw stepWords_fn ?_
    try simp (maxSteps:=9^9) only[go_sem]
    repeat refine AI ?_
    refine cw c1 ?_
    try simp (maxSteps:=9^9) only[go_sem]
    repeat refine AI ?_
    refine CallW.to (parsePoint_some l2 hq) ?_
    try simp (maxSteps:=9^9) only[go_sem]
    refine GuardW_decf (fun _=>?_) (fun h=>absurd h g4)
    try simp (maxSteps:=9^9) only[go_sem]
    exact ⟨by constructor<;>omega,by omega⟩
   ·rw [pS_no4 k3]
    rw [k3] at c1
    refine fnT_enter tabOK mixes Tryz.func30 rfl rfl _ Tryz.ntmps30 _ Tryz.results30 (by simp) fun hwf=>?_
    try simp (maxSteps:=9^9) only[go_sem]
    repeat refine AI ?_
    refine cw (cut_some s 32 hm hl) ?_
    try simp (maxSteps:=9^9) only[go_sem]
    repeat refine AI ?_
    refine cw stepWords_fn ?_
    try simp (maxSteps:=9^9) only[go_sem]
    repeat refine AI ?_
    refine cw c1 ?_
    try simp (maxSteps:=9^9) only[go_sem]
    repeat refine AI ?_
    refine CallW.to (parsePoint_some l2 hq) ?_
    try simp (maxSteps:=9^9) only[go_sem]
 ·have c1:=wIndex_fn s
  have hq:pP []=none:=pP_no1 (by decide)
  rw [pS_no1 hm]
  refine fnT_enter tabOK mixes Tryz.func30 rfl rfl _ Tryz.ntmps30 _ Tryz.results30 (by simp) fun hwf=>?_
  try simp (maxSteps:=9^9) only[go_sem]
  repeat refine AI ?_
  refine cw (cut_none s 32 hm hl) ?_
  try simp (maxSteps:=9^9) only[go_sem]
  repeat refine AI ?_
  refine cw stepWords_fn ?_
  try simp (maxSteps:=9^9) only[go_sem]
  repeat refine AI ?_
  refine cw c1 ?_
  try simp (maxSteps:=9^9) only[go_sem]
  repeat refine AI ?_
  refine CallW.to (parsePoint_none (by decide) hq) ?_
  try simp (maxSteps:=9^9) only[go_sem]
  refine GuardW_decf (fun h=>?_) (fun h=>?_)
  ·try simp (maxSteps:=9^9) only[go_sem]
  ·try simp (maxSteps:=9^9) only[go_sem]
theorem pS_hit {s:List UInt8} {k:Int} {q:DP} (h:fmtS (k,q) ≠ []) (e:fmtS (k,q)=s):pS s=some (k,q):=unF_some (fun _ _=>fmtS_inj) (fmtS_of h) e
theorem pS_end {s:List UInt8} {q:DP} (hq:(pP (aft 32 s)).getD (((false,[]),[]),((false,[]),[]))=q) (h:∀ j:Int,-1<=j->j < 2->fmtS (j,q)=s->fmtS (j,q)=[]):pS s=none:=unF_none fun p hp e=>by
 have h1:=hp.1
 have e2:pP (aft 32 s)=some p.2:=by rw [<-e,(fmtS_in hp).2.2.1]; exact pP_some hp.2
 rw [e2] at hq
 have hq:p.2=q:=hq
 have ep:(p.1,q)=p:=by rw [<-hq]
 have:=h p.1 (by omega) (by omega)
 rw [ep] at this
 have:=this e
 rw [fmtS_ok hp] at this
 cases (List.append_eq_nil_iff.1 this).2
theorem parseStepS_fn (s:List UInt8) (hl:s.length<=1048576):Fn Tryz.prog 29 [⟨.str,bs s⟩] false [⟨tStep,(pS s).getD (0,(((false,[]),[]),((false,[]),[])))⟩,⟨.bool,(pS s).isSome⟩]:=by
 have l2:(aft 32 s).length<=1048576:=Nat.le_trans (aft_len 32 s) hl
 by_cases hm:32 ∈ s
 ·by_cases h2:32 ∈ aft 32 s
  ·rw [pS_no5 h2]
   obtain ⟨y,y1,y2,c1⟩:=splitS_more hl hm h2
   have y3:¬ (y.length:Int)=2:=by omega
   refine fe Tryz.func29 Tryz.ntmps29 Tryz.results29 fun hwf=>?_
   try simp (maxSteps:=9^9) only[go_sem]
   repeat refine AI ?_
   refine cw c1 ?_
   try simp (maxSteps:=9^9) only[go_sem]
   try simp (maxSteps:=9^9) only[go_sem,y3]
  ·generalize hq:(pP (aft 32 s)).getD (((false,[]),[]),((false,[]),[]))=q
   obtain ⟨b,c2⟩:=parsePointS_some l2 hq
   refine fe Tryz.func29 Tryz.ntmps29 Tryz.results29 fun hwf=>?_
   try simp (maxSteps:=9^9) only[go_sem]
   repeat refine AI ?_
   refine cw (splitS_two hl hm h2) ?_
   try simp (maxSteps:=9^9) only[go_sem]
   refine CondW_not (fun h=>absurd rfl h) (fun _=>?_)
   try simp (maxSteps:=9^9) only[go_sem]
   refine ⟨by omega,CallW.mk c2 ?_⟩
   try simp (maxSteps:=9^9) only[go_sem]
   refine ⟨rfl,?_⟩
   refine LoopG.intro _ _ _ (fun k:Int=>⟨[(0,.sc (.string (bs s))),(2,.ptr 0 0),(3,.sc (.bool false)),(5,.ptr 2 0)],[(2,.bx none [.sc (.int .i64 k),.sc (.bool q.1.1.1),.sl .int q.1.1.2,.sl .int q.1.2,.sc (.bool q.2.1.1),.sl .int q.2.1.2,.sl .int q.2.2]),(0,.box [.sc (.int .i64 0),.sc (.bool false),.sc (.slice none 0 0),.sc (.slice none 0 0),.sc (.bool false),.sc (.slice none 0 0),.sc (.slice none 0 0)])]⟩) (fun k=>(-1<=k/\k<=2)/\∀ j:Int,-1<=j->j < k->fmtS (j,q)=s->fmtS (j,q)=[]) (fun k=>(2 - k).toNat) (-1) ?_ ⟨by omega,fun j h h'=>absurd h (by omega)⟩ ?_
   ·exact WK
   ·rintro k ⟨⟨k0,k1⟩,k2⟩
    try simp (maxSteps:=9^9) only[go_sem]
    refine CondW_dec (fun h4=>?_) (fun h4=>?_)
    ·try simp (maxSteps:=9^9) only[go_sem]
     refine cw (formatStepS_fn k q) ?_
     try simp (maxSteps:=9^9) only[go_sem]
     by_cases hf:fmtS (k,q)=[]
     ·try simp (maxSteps:=9^9) only[go_sem,hf]
      refine ⟨by constructor<;>omega,LoopK.mk (k+1) ?_ ⟨by omega,fun j hj' hj e=>?_⟩ (by omega)⟩
      ·exact WK
      ·by_cases hk:j=k
       ·subst hk; exact hf
       ·exact k2 j hj' (by omega) e
     ·try simp (maxSteps:=9^9) only[go_sem,hf]
      refine cw (formatStepS_fn k q) ?_
      try simp (maxSteps:=9^9) only[go_sem]
      refine CondW_dec (fun he=>?_) (fun he=>?_)
      ·rw [pS_hit hf he]
       try simp (maxSteps:=9^9) only[go_sem]
      ·try simp (maxSteps:=9^9) only[go_sem]
       refine ⟨by constructor<;>omega,LoopK.mk (k+1) ?_ ⟨by omega,fun j hj' hj e=>?_⟩ (by omega)⟩
       ·exact WK
       ·by_cases hk:j=k
        ·subst hk; exact absurd e he
        ·exact k2 j hj' (by omega) e
    ·obtain rfl:k=2:=by omega
     rw [pS_end hq k2]
     try simp (maxSteps:=9^9) only[go_sem]
 ·rw [pS_no1 hm]
  refine fe Tryz.func29 Tryz.ntmps29 Tryz.results29 fun hwf=>?_
  try simp (maxSteps:=9^9) only[go_sem]
  repeat refine AI ?_
  refine cw (splitS_no hl hm) ?_
  try simp (maxSteps:=9^9) only[go_sem]
  refine CondW_not (fun _=>?_) (fun h=>absurd h (by omega))
  try simp (maxSteps:=9^9) only[go_sem]
end Go.Proofs.YtaeckjmkjhffnaaGreatDoor.DW

namespace Go.Proofs.YtaeckjmkjhffnaaGreatDoor.DW
open Go.RowKit Go.Shelf
def cntL_ren:Go.Shelf.Ren:=⟨fun|138=>155|143=>89|195=>175|217=>143|218=>177|219=>120|224=>145|225=>144|266=>168|267=>146|314=>169|n=>n,fun|0=>0|3=>3|4=>4|5=>5|9=>9|46=>151|51=>173|146=>174|n=>n,fun|1=>0|n=>n⟩
theorem cntL:Lays.n138 Tryz.prog cntL_ren:={
 mixed:=by kernel_rfl
 f138:=Tryz.func155.trans (congrArg some (by kernel_rfl))
 f143:=Tryz.func89.trans (congrArg some (by kernel_rfl))
 f195:=Tryz.func175.trans (congrArg some (by kernel_rfl))
 f217:=Tryz.func143.trans (congrArg some (by kernel_rfl))
 f218:=Tryz.func177.trans (congrArg some (by kernel_rfl))
 f219:=Tryz.func120.trans (congrArg some (by kernel_rfl))
 f224:=Tryz.func145.trans (congrArg some (by kernel_rfl))
 f225:=Tryz.func144.trans (congrArg some (by kernel_rfl))
 f266:=Tryz.func168.trans (congrArg some (by kernel_rfl))
 f267:=Tryz.func146.trans (congrArg some (by kernel_rfl))
 f314:=Tryz.func169.trans (congrArg some (by kernel_rfl))
 t0:=Tryz.underlying0
 a0:=Tryz.isAgg0
 z0:=Tryz.sizeOf0
 v0:=Tryz.zeroValue0
 t3:=Tryz.underlying3
 a3:=Tryz.isAgg3
 z3:=Tryz.sizeOf3
 v3:=Tryz.zeroValue3
 t4:=Tryz.underlying4
 a4:=Tryz.isAgg4
 z4:=Tryz.sizeOf4
 v4:=Tryz.zeroValue4
 t5:=Tryz.underlying5
 a5:=Tryz.isAgg5
 z5:=Tryz.sizeOf5
 v5:=Tryz.zeroValue5
 t9:=Tryz.underlying9
 a9:=Tryz.isAgg9
 z9:=Tryz.sizeOf9
 v9:=Tryz.zeroValue9
 t46:=Tryz.underlying151
 a46:=Tryz.isAgg151
 z46:=Tryz.sizeOf151
 v46:=Tryz.zeroValue151
 t51:=Tryz.underlying173
 a51:=Tryz.isAgg173
 z51:=Tryz.sizeOf173
 v51:=Tryz.zeroValue173
 t146:=Tryz.underlying174
 a146:=Tryz.isAgg174
 z146:=Tryz.sizeOf174
 v146:=Tryz.zeroValue174
 g1:=by kernel_rfl }
theorem spl_count (c:UInt8):∀ s:List UInt8,(spl c s).length=Lib.countByte s c+1
 | []=>rfl
 | b :: l=>by
  have:=spl_count c l
  rw [Lib.countByte] at this ⊢
  by_cases hb:b=c
  ·rw [spl,if_pos hb,List.length_cons,this,List.count_cons,if_pos (by rw [hb]; exact beq_self_eq_true c)]
  ·obtain ⟨r,e⟩:=spl_cons c l
   rw [e,List.length_cons] at this
   rw [spl,if_neg hb,e,List.count_cons,if_neg (by rw [beq_iff_eq]; exact hb)]
   dsimp only
   rw [List.length_cons]; omega
theorem count_fn (s:List UInt8) (c:UInt8) (hl:s.length<=1048576):Fn Tryz.prog 155 [⟨.str,bs s⟩,⟨.str,bs [c]⟩] false [⟨.int,(Lib.countByte s c:Int)⟩]:=by
 refine ⟨enters_of Tryz.func155 (by kernel_rfl) rfl,fun w vs S hg ha=>?_⟩
 match vs,ha with
 | [v,u],⟨⟨fp,hd,_⟩,⟨fp2,hd2,_⟩,_⟩ =>
  rw [(rep_str hd).1,(rep_str hd2).1]
  refine (Any.strings_Count_one cntL (bs s) c w).mono ?_
  rintro e w' ⟨rfl,rfl⟩
  rw [bs_list]
  have h1:=spl_count c s
  have h2:=spl_len c s
  have hI:I64 (Lib.countByte s c):=by constructor<;>omega
  exact ⟨Below.refl _ _,_,rfl,[],⟨[.int .i64 (Lib.countByte s c)],.inr ⟨rfl,rfl⟩,rfl,rfl,hI⟩,fun _=>ownFp_nil _ _,fun b hb=>by cases hb⟩
theorem spl_two {c:UInt8} {r:List UInt8} (h:2<=(spl c r).length):c ∈ r:=by
 by_cases hm:c ∈ r
 ·exact hm
 ·rw [spl_no hm,List.length_singleton] at h; omega
theorem set_at {l:List ByteArray} {i m:Nat} {x e:ByteArray} (h:l.length=i):(l++List.replicate (m+1) e).set i x=(l++[x])++List.replicate m e:=by
 subst h
 rw [List.set_append_right _ _ (Nat.le_refl _),Nat.sub_self,List.replicate_succ,List.set_cons_zero,List.append_assoc]; rfl
theorem genSplit_fn (s:List UInt8) (c:UInt8) (hl:s.length<=1048576):Fn Tryz.prog 130 [⟨.str,bs s⟩,⟨.str,bs [c]⟩,⟨.int,(0:Int)⟩,⟨.int,(-1:Int)⟩] true [⟨.slice .str,(spl c s).map bs⟩]:=by
 have h1:=spl_count c s
 have h2:=spl_len c s
 have c1:=count_fn s c hl
 generalize hn:Lib.countByte s c=n at c1 h1
 refine fe Tryz.func130 Tryz.ntmps130 Tryz.results130 fun hwf=>?_
 try simp (maxSteps:=9^9) only[go_sem]
 repeat refine AI ?_
 refine cw c1 ?_
 try simp (maxSteps:=9^9) only[go_sem]
 have hmin:min ((n:Int)+1) ((s.length:Int)+1)=((n+1:Nat):Int):=by omega
 have hn1:((n+1:Nat):Int) - 1=(n:Int):=by omega
 simp only [hmin,hn1,Int.toNat_natCast]
 refine ⟨i64_nat (by omega) (by omega),i64_nat (by omega) (by omega),by omega,Int.le_refl _,by omega,i64_nat (by omega) (by omega),?_⟩
 refine LoopG.intro _ _ _ (fun y:Nat × List UInt8 × List (List UInt8)=>⟨[(0,.sc (.string (bs y.2.1))),(1,.sc (.string (bs [c]))),(2,.sc (.int .i64 0)),(3,.sc (.int .i64 n)),(9,.row 9 0),(10,.sc (.int .i64 y.1))],[(9,.row 9 .str 0 true (y.2.2.map bs++List.replicate (n+1 - y.1) (bs [])))]⟩) (fun y=>y.1<=n/\y.2.2.length=y.1/\(spl c y.2.1).length=n+1 - y.1/\y.2.2++spl c y.2.1=spl c s/\y.2.1.length<=s.length) (fun y=>n - y.1) (0,s,[]) ?_ ⟨Nat.zero_le _,rfl,by dsimp only; omega,rfl,Nat.le_refl _⟩ ?_
 ·refine Wk.mk [(9,0)] ?_
  try simp (maxSteps:=9^9) only[go_sem]
  try (and_intros<;>first|rfl|omega|exact ⟨_,rfl⟩)
 ·rintro ⟨i,r,o⟩ ⟨k1,k2,k3,k4,k5⟩
  dsimp only at k1 k2 k3 k4 k5
  try simp (maxSteps:=9^9) only[go_sem]
  refine CondW_dec (fun h4=>?_) (fun h4=>?_)
  ·have hm:c ∈ r:=spl_two (by omega)
   have c2:=sIndex_fn r c (by omega)
   rw [ixB.1 hm] at c2
   obtain ⟨b1,h2b⟩:=(bfr_len c r).2 hm
   have b3:¬ ((bfr c r).length:Int) < 0:=by omega
   try simp (maxSteps:=9^9) only[go_sem]
   repeat refine AI ?_
   refine cw c2 ?_
   try simp (maxSteps:=9^9) only[go_sem]
   refine CondW_dec (fun h=>absurd h b3) (fun _=>?_)
   try simp (maxSteps:=9^9) only[go_sem]
   have hol:(o.map bs).length=i:=by rw [List.length_map]; exact k2
   refine ⟨i64_nat (by omega) (by omega),by omega,by omega,by omega,by omega,by omega,i64_nat (by omega) (by omega),by omega,by omega,Int.le_refl _,i64_nat (by omega) (by omega),?_⟩
   refine LoopK.mk (i+1,aft c r,o++[bfr c r]) ?_ ?_ ?_
   ·obtain ⟨m,hm⟩:∃ m,n+1 - i=m+1:=⟨n - i,by omega⟩
    rw [hm,set_at hol,show n+1 - (i+1)=m by omega]
    refine Wk.mk [] ?_
    try simp (maxSteps:=9^9) only[go_sem]
    try (and_intros<;>first|rfl|omega|exact ⟨_,rfl⟩)
    refine ⟨⟨by rw [List.take_length]; rfl,by omega⟩,?_⟩
    rw [List.map_append,show ((bfr c r).length+0:Int).toNat=(bfr c r).length by omega,h2b]; rfl
   ·rw [spl_in hm] at k3 k4
    rw [List.length_cons] at k3
    refine ⟨by dsimp only; omega,by dsimp only; rw [List.length_append,k2]; rfl,by dsimp only; omega,by dsimp only; rw [List.append_assoc]; exact k4,Nat.le_trans (aft_len c r) k5⟩
   ·dsimp only; omega
  ·obtain rfl:i=n:=by omega
   have hol:(o.map bs).length=i:=by rw [List.length_map]; exact k2
   have hnr:c ∉ r:=fun hm=>by
    rw [spl_in hm,List.length_cons] at k3
    obtain ⟨q,e⟩:=spl_cons c (aft c r)
    rw [e,List.length_cons] at k3
    omega
   try simp (maxSteps:=9^9) only[go_sem]
   refine ⟨by omega,by omega,by omega,i64_nat (by omega) (by omega),by omega,by omega,?_⟩
   refine SlcW.cut (e:=9) (o:=true) ⟨rfl,rfl,?_⟩
   try simp (maxSteps:=9^9) only[go_sem]
   rw [show i+1 - i=0+1 by omega,set_at hol,List.replicate_zero,List.append_nil,<-k4,spl_no hnr,List.map_append]
   exact List.take_of_length_le (by rw [List.length_append,hol]; simp)
theorem split_fn (s:List UInt8) (c:UInt8) (hl:s.length<=1048576):Fn Tryz.prog 98 [⟨.str,bs s⟩,⟨.str,bs [c]⟩] true [⟨.slice .str,(spl c s).map bs⟩]:=by
 refine fe Tryz.func98 Tryz.ntmps98 Tryz.results98 fun hwf=>?_
 try simp (maxSteps:=9^9) only[go_sem]
 repeat refine AI ?_
 refine cw (genSplit_fn s c hl) ?_
 try simp (maxSteps:=9^9) only[go_sem]
theorem spl_last (c:UInt8) (s:List UInt8):∃ o z,spl c s=o++[z]:=by
 rcases List.eq_nil_or_concat (spl c s) with h|⟨o,z,h⟩
 ·obtain ⟨r,e⟩:=spl_cons c s
  rw [e] at h; cases h
 ·exact ⟨o,z,by rw [h,List.concat_eq_append]⟩
def lns (s:List UInt8):List (List UInt8):=if (spl 10 s).getLast? = some [] then (spl 10 s).dropLast else spl 10 s
theorem lns_nil {s:List UInt8} {o:List (List UInt8)} (h:spl 10 s=o++[[]]):lns s=o:=by
 rw [lns,h,if_pos List.getLast?_concat,List.dropLast_concat]
theorem lns_ne {s:List UInt8} {o:List (List UInt8)} {z:List UInt8} (h:spl 10 s=o++[z]) (hz:z ≠ []):lns s=o++[z]:=by
 rw [lns,h,if_neg (by rw [List.getLast?_concat]; exact fun e=>hz (Option.some.inj e))]
theorem lns_len (s:List UInt8):(lns s).length<=s.length+1:=by
 have h:=spl_len 10 s
 unfold lns
 split
 ·rw [List.length_dropLast]; omega
 ·exact h
theorem nth_last {o:List (List UInt8)} {z:List UInt8}:@nth .str (List.map bs (o++[z])) o.length=bs z:=by
 rw [nth,List.map_append,List.getD_eq_getElem?_getD,List.getElem?_append_right (by rw [List.length_map]; exact Nat.le_refl _),List.length_map,Nat.sub_self]; rfl
theorem splitLines_fn (s:List UInt8) (hl:s.length<=1048576):Fn Tryz.prog 70 [⟨.str,bs s⟩] false [⟨.slice .str,(lns s).map bs⟩]:=by
 have c1:=split_fn s 10 hl
 obtain ⟨o,z,e⟩:=spl_last 10 s
 have hlen:=spl_len 10 s
 rw [e] at c1 hlen
 rw [List.length_append,List.length_singleton] at hlen
 have hnt:=@nth_last o z
 have hl2:((List.map bs (o++[z])).length:Int) - 1=(o.length:Int):=by rw [List.length_map,List.length_append,List.length_singleton]; omega
 have hl3:(List.map bs (o++[z])).length=o.length+1:=by rw [List.length_map,List.length_append,List.length_singleton]
 generalize hy:List.map bs (o++[z])=y at c1 hnt hl2 hl3
 refine fe Tryz.func70 Tryz.ntmps70 Tryz.results70 fun hwf=>?_
 try simp (maxSteps:=9^9) only[go_sem]
 repeat refine AI ?_
 refine cw c1 ?_
 try simp (maxSteps:=9^9) only[go_sem]
 have hk:((y.length:Int) - 1).toNat=o.length:=by omega
 simp only [hk,hnt]
 try simp (maxSteps:=9^9) only[go_sem]
 refine ⟨i64_nat (by omega) (by omega),by omega,by omega,CondW_dec (fun hz=>?_) (fun hz=>?_)⟩
 ·rw [lns_nil (by rw [e,hz])]
  try simp (maxSteps:=9^9) only[go_sem]
  refine ⟨by omega,by omega,SlcW.keep ?_⟩
  try simp (maxSteps:=9^9) only[go_sem]
  rw [hk,<-hy,List.map_append]
  exact List.take_left' (by rw [List.length_map])
 ·rw [lns_ne e hz]
  try simp (maxSteps:=9^9) only[go_sem]
  exact hy.symm
theorem hasSuffixL_fn (u:List UInt8) (b:UInt8) (hl:(u++[b]).length<=1048576):Fn Tryz.prog 97 [⟨.str,bs (u++[b])⟩,⟨.str,bs [10]⟩] false [⟨.bool,decide (b=10)⟩]:=by
 have h1:(u++[b]).length=u.length+1:=by rw [List.length_append]; rfl
 have h2:(1:Int)<=((u++[b]).length:Int):=by omega
 have hd:List.drop u.length (List.take (u++[b]).length (u++[b]))=[b]:=by rw [List.take_length,List.drop_left]
 generalize hs:u++[b]=s at hl h1 h2 hd
 refine fe Tryz.func97 Tryz.ntmps97 Tryz.results97 fun hwf=>?_
 try simp (maxSteps:=9^9) only[go_sem]
 refine GuardW_dec (fun _=>?_) (fun h=>absurd h2 h)
 try simp (maxSteps:=9^9) only[go_sem]
 refine ⟨i64_nat (by omega) (by omega),by omega,by omega,Int.le_refl _,?_⟩
 rw [show ((s.length:Int) - ((1:Nat):Int)).toNat=u.length by omega,hd]
 by_cases hb:b=10
 ·rw [hb,decide_eq_true rfl,decide_eq_true rfl]
 ·rw [decide_eq_false hb,decide_eq_false fun h=>hb (List.cons.inj h).1]
theorem hasSuffix_fn (u:List UInt8) (b:UInt8) (hl:(u++[b]).length<=1048576):Fn Tryz.prog 69 [⟨.str,bs (u++[b])⟩,⟨.str,bs [10]⟩] false [⟨.bool,decide (b=10)⟩]:=by
 refine fe Tryz.func69 Tryz.ntmps69 Tryz.results69 fun hwf=>?_
 try simp (maxSteps:=9^9) only[go_sem]
 repeat refine AI ?_
 refine cw (hasSuffixL_fn u b hl) ?_
 try simp (maxSteps:=9^9) only[go_sem]
theorem splitLinesS_fn (s:List UInt8) (hl:s.length<=1048576):Fn Tryz.prog 74 [⟨.str,bs s⟩] false [⟨.slice .str,(lns s).map bs⟩]:=by
 have c1:=splitS_fn s 10 hl
 obtain ⟨o,z,e⟩:=spl_last 10 s
 have hlen:=spl_len 10 s
 rw [e] at c1 hlen
 rw [List.length_append,List.length_singleton] at hlen
 have hnt:=@nth_last o z
 have hl2:((List.map bs (o++[z])).length:Int) - 1=(o.length:Int):=by rw [List.length_map,List.length_append,List.length_singleton]; omega
 have hl3:(List.map bs (o++[z])).length=o.length+1:=by rw [List.length_map,List.length_append,List.length_singleton]
 generalize hy:List.map bs (o++[z])=y at c1 hnt hl2 hl3
 refine fe Tryz.func74 Tryz.ntmps74 Tryz.results74 fun hwf=>?_
 try simp (maxSteps:=9^9) only[go_sem]
 repeat refine AI ?_
 refine cw c1 ?_
 try simp (maxSteps:=9^9) only[go_sem]
 have hk:((y.length:Int) - 1).toNat=o.length:=by omega
 simp only [hk,hnt]
 try simp (maxSteps:=9^9) only[go_sem]
 refine ⟨i64_nat (by omega) (by omega),by omega,by omega,CondW_dec (fun hz=>?_) (fun hz=>?_)⟩
 ·rw [lns_nil (by rw [e,hz])]
  try simp (maxSteps:=9^9) only[go_sem]
  refine ⟨i64_nat (by omega) (by omega),by omega,by omega,SlcW.keep ?_⟩
  try simp (maxSteps:=9^9) only[go_sem]
  rw [hk,<-hy,List.map_append]
  exact List.take_left' (by rw [List.length_map])
 ·rw [lns_ne e hz]
  try simp (maxSteps:=9^9) only[go_sem]
  exact hy.symm
theorem formatStepS_at (x:tStep.den):Fn Tryz.prog 16 [⟨tStep,x⟩] false [⟨.str,bs (fmtS x)⟩]:=by
 obtain ⟨h,q⟩:=x
 exact formatStepS_fn h q
theorem fmtS_len (x:tStep.den):(fmtS x).length<=2200:=by
 obtain ⟨h,q⟩:=x
 by_cases hc:(-1<=h/\h<=1)/\okPt q=true
 ·rw [show fmtS (h,q)=wrd h++32 :: fmtP q from if_pos hc,List.length_append,List.length_cons]
  have:=fmtP_len hc.2
  have:=wrd_len h
  omega
 ·rw [show fmtS (h,q)=[] from if_neg hc]; simp
noncomputable def linesM (l:List tStep.den):Nat->List UInt8
 | 0=>[]
 | k+1=>linesM l k++(fmtS (nth (t:=tStep) l k)++[10])
theorem linesM_len (l:List tStep.den):∀ k,(linesM l k).length<=2201 * k
 | 0=>by simp [linesM]
 | k+1=>by
  have:=linesM_len l k
  have:=fmtS_len (nth (t:=tStep) l k)
  simp only [linesM,List.length_append,List.length_cons,List.length_nil]; omega
open Classical in
noncomputable def fmtM (l:List tStep.den):List UInt8:=if 60 < l.length then [] else if ∃ i,i < l.length/\fmtS (nth (t:=tStep) l i)=[] then [] else linesM l l.length
theorem formatMotionS_fn (l:List tStep.den):Fn Tryz.prog 21 [⟨.slice tStep,l⟩] false [⟨.str,bs (fmtM l)⟩]:=by
 refine fe Tryz.func21 Tryz.ntmps21 Tryz.results21 fun hwf=>?_
 try simp (maxSteps:=9^9) only[go_sem]
 refine CondW_dec (fun hc=>?_) (fun hc=>?_)
 ·rw [show fmtM l=[] from if_pos (by omega)]
  try simp (maxSteps:=9^9) only[go_sem]
 ·have e0:¬ 60 < l.length:=by omega
  try simp (maxSteps:=9^9) only[go_sem]
  refine LoopG.intro _ _ _ (fun k:Nat=>⟨[(0,.sl tStep l),(3,.sc (.string (bs (linesM l k)))),(10,.sl tStep l),(11,.sc (.int .i64 l.length)),(12,.sc (.int .i64 k))],[]⟩) (fun k=>k<=l.length/\∀ i,i < k->fmtS (nth (t:=tStep) l i) ≠ []) (fun k=>l.length - k) 0 ?_ ⟨Nat.zero_le _,fun i h=>by omega⟩ ?_
  ·exact WK
  ·rintro k ⟨h1,h2⟩
   have hl:=linesM_len l k
   have hs:=fmtS_len (nth (t:=tStep) l k)
   try simp (maxSteps:=9^9) only[go_sem]
   refine CondW_dec (fun h4=>?_) (fun h4=>?_)
   ·try simp (maxSteps:=9^9) only[go_sem]
    repeat refine AI ?_
    refine cw (formatStepS_at (nth (t:=tStep) l k)) ?_
    try simp (maxSteps:=9^9) only[go_sem]
    refine CondW_dec (fun h5=>?_) (fun h5=>?_)
    ·rw [show fmtM l=[] from (if_neg e0).trans (if_pos ⟨k,by omega,h5⟩)]
     try simp (maxSteps:=9^9) only[go_sem]
    ·try simp (maxSteps:=9^9) only[go_sem]
     refine ⟨ml (by omega),ml (by omega),by constructor<;>omega,LoopK.mk (k+1) ?_ ⟨by omega,fun i hi=>by
      by_cases he:i=k
      ·rw [he]; exact h5
      ·exact h2 i (by omega)⟩ (by omega)⟩
     rw [linesM,<-List.append_assoc]
     exact WK
   ·have hk:k=l.length:=by omega
    subst hk
    rw [show fmtM l=linesM l l.length from (if_neg e0).trans (if_neg fun ⟨i,hi,e⟩=>h2 i hi e)]
    try simp (maxSteps:=9^9) only[go_sem]
def okM (l:List (Int × DP)):Prop:=l.length<=60/\∀ x ∈ l,okS x
noncomputable def pM (s:List UInt8):Option (List (Int × DP)):=unF okM fmtM s
theorem fmtS_nl {p:Int × DP} (h:okS p):(10:UInt8) ∉ fmtS p:=by
 rw [fmtS_ok h]
 intro hm
 rcases List.mem_append.1 hm with h1|h1
 ·rcases wrd_cases h.1 with e|e|e<;>rw [e] at h1<;>revert h1<;>decide
 ·rcases List.mem_cons.1 h1 with h2|h2
  ·revert h2; decide
  ·exact fmtP_no h.2 (c:=10) (by decide) (by decide) (by decide) (by decide) h2
theorem fmtS_ne {p:Int × DP} (h:okS p):fmtS p ≠ []:=by
 rw [fmtS_ok h]
 intro e
 cases (List.append_eq_nil_iff.1 e).2
def cat (w:List (List UInt8)):List UInt8:=w.flatMap (·++[10])
theorem cat_app (a b:List (List UInt8)):cat (a++b)=cat a++cat b:=List.flatMap_append
theorem linesM_cat (l:List (Int × DP)):∀ k,k<=l.length->linesM l k=cat ((l.take k).map fmtS)
 | 0,_=>rfl
 | k+1,h=>by
  have hk:k < l.length:=h
  rw [linesM,linesM_cat l k (by omega),<-List.take_append_getElem hk,List.map_append,cat_app]
  congr 1
  show fmtS (nth (t:=tStep) l k)++[10]=(fmtS l[k]++[10])++[]
  rw [List.append_nil,nth,List.getD_eq_getElem?_getD,List.getElem?_eq_getElem hk]; rfl
theorem fmtM_ok {l:List (Int × DP)} (h:okM l):fmtM l=cat (l.map fmtS):=by
 have h1:¬ 60 < l.length:=Nat.not_lt.2 h.1
 have h2:¬ ∃ i,i < l.length/\fmtS (nth (t:=tStep) l i)=[]:=fun ⟨i,hi,e⟩=>by
  rw [nth,List.getD_eq_getElem?_getD,List.getElem?_eq_getElem hi] at e
  exact fmtS_ne (h.2 _ (List.getElem_mem hi)) e
 rw [fmtM,if_neg h1,if_neg h2,linesM_cat l _ (Nat.le_refl _),List.take_length]
theorem spl_cat {w:List (List UInt8)} (h:∀ x ∈ w,(10:UInt8) ∉ x):spl 10 (cat w)=w++[[]]:=by
 induction w with
 | nil=>rfl
 | cons x w ih =>
  have e:cat (x :: w)=x++10 :: cat w:=by
   show (x++[10])++cat w=_
   rw [List.append_assoc]; rfl
  rw [e,spl_app (h x List.mem_cons_self),ih fun y hy=>h y (List.mem_cons_of_mem _ hy)]; rfl
theorem cat_spl:∀ u:List UInt8,cat (spl 10 u)=u++[10]
 | []=>rfl
 | b :: l=>by
  have ih:=cat_spl l
  by_cases hb:b=10
  ·rw [spl,if_pos hb]
   show [10]++cat (spl 10 l)=_
   rw [ih,hb]; rfl
  ·obtain ⟨r,e⟩:=spl_cons 10 l
   rw [e] at ih
   rw [spl,if_neg hb,e]
   show b :: (bfr 10 l++[10])++cat r=_
   exact congrArg (b :: ·) ih
theorem spl_end (c:UInt8):∀ u:List UInt8,spl c (u++[c])=spl c u++[[]]
 | []=>if_pos rfl
 | b :: l=>by
  have ih:=spl_end c l
  rw [List.cons_append,spl,ih]
  by_cases hb:b=c
  ·rw [if_pos hb,spl,if_pos hb]; rfl
  ·obtain ⟨r,e⟩:=spl_cons c l
   rw [if_neg hb,spl,if_neg hb,e]; rfl
theorem spl_ends {c b:UInt8} (hb:b ≠ c):∀ u:List UInt8,∃ o z,spl c (u++[b])=o++[z++[b]]
 | []=>⟨[],[],by rw [List.nil_append,spl,if_neg hb]; rfl⟩
 | a :: l=>by
  obtain ⟨o,z,e⟩:=spl_ends hb l
  by_cases ha:a=c
  ·exact ⟨[] :: o,z,by rw [List.cons_append,spl,if_pos ha,e]; rfl⟩
  ·cases o with
   | nil=>exact ⟨[],a :: z,by rw [List.cons_append,spl,if_neg ha,e]; rfl⟩
   | cons x o=>exact ⟨(a :: x) :: o,z,by rw [List.cons_append,spl,if_neg ha,e]; rfl⟩
theorem lns_fmt {l:List (Int × DP)} (h:okM l):lns (fmtM l)=l.map fmtS:=by
 refine lns_nil ?_
 rw [fmtM_ok h]
 refine spl_cat fun x hx=>?_
 obtain ⟨p,hp,rfl⟩:=List.mem_map.1 hx
 exact fmtS_nl (h.2 p hp)
theorem pS_fmt {p:Int × DP} (h:okS p):pS (fmtS p)=some p:=unF_some (fun _ _=>fmtS_inj) h rfl
theorem pS_map {l:List (Int × DP)} (h:∀ x ∈ l,okS x):(l.map fmtS).map pS=l.map some:=by
 rw [List.map_map]
 exact List.map_congr_left fun x hx=>pS_fmt (h x hx)
theorem lns_pS {l:List (Int × DP)} (h:okM l):(lns (fmtM l)).map pS=l.map some:=by rw [lns_fmt h,pS_map h.2]
theorem some_inj {l m:List (Int × DP)} (h:l.map some=m.map some):l=m:=(List.map_inj_right fun _ _ e=>Option.some.inj e).1 h
theorem fmtM_inj {l m:List (Int × DP)} (h:okM l) (h':okM m) (e:fmtM l=fmtM m):l=m:=some_inj (by rw [<-lns_pS h,<-lns_pS h',e])
theorem pM_no1 {s:List UInt8} {k:Nat} (hk:k < (lns s).length) (h:pS (lns s)[k]=none):pM s=none:=unF_none fun l hl e=>by
 subst e
 have e1:=lns_pS hl
 have e2:((lns (fmtM l)).map pS)[k]? = (l.map some)[k]?:=by rw [e1]
 rw [List.getElem?_map,List.getElem?_map,List.getElem?_eq_getElem hk,Option.map_some,h] at e2
 cases hx:l[k]? with
 | none=>rw [hx] at e2; cases e2
 | some x=>rw [hx] at e2; cases e2
theorem pM_no2 {s:List UInt8} (h:60 < (lns s).length):pM s=none:=unF_none fun l hl e=>by
 subst e
 rw [lns_fmt hl,List.length_map] at h
 have:=hl.1
 omega
theorem pM_no3 {u:List UInt8} {b:UInt8} (hb:b ≠ 10):pM (u++[b])=none:=unF_none fun l hl e=>by
 obtain ⟨o,z,h⟩:=spl_ends hb u
 have h2:spl 10 (fmtM l)=l.map fmtS++[[]]:=by
  rw [fmtM_ok hl]
  refine spl_cat fun x hx=>?_
  obtain ⟨p,hp,rfl⟩:=List.mem_map.1 hx
  exact fmtS_nl (hl.2 p hp)
 rw [e,h] at h2
 have:=(List.append_inj_right' h2 rfl)
 have:=(List.cons.inj this).1
 cases (List.append_eq_nil_iff.1 this).2
theorem pM_nil:pM []=some []:=by
 have ho:okM []:=⟨Nat.zero_le _,fun x hx=>by cases hx⟩
 exact unF_some (fun _ _=>fmtM_inj) ho ((fmtM_ok ho).trans rfl)
theorem okS_map {w:List (List UInt8)} {l:List (Int × DP)} (h:w.map pS=l.map some):(∀ x ∈ l,okS x)/\w=l.map fmtS:=by
 induction w generalizing l with
 | nil=>cases l with
  | nil=>exact ⟨fun x hx=>absurd hx List.not_mem_nil,rfl⟩
  | cons x l=>cases h
 | cons y w ih=>cases l with
  | nil=>cases h
  | cons x l =>
   have h1:=(List.cons.inj h).1
   obtain ⟨i1,i2⟩:=ih (List.cons.inj h).2
   obtain ⟨j1,j2⟩:=unF_eq (ok:=okS) (f:=fmtS) h1
   exact ⟨fun z hz=>(List.mem_cons.1 hz).elim (fun e=>by rw [e]; exact j1) (i1 z),by rw [List.map_cons,j2,<-i2]⟩
theorem pM_yes {u:List UInt8} {l:List (Int × DP)} (h:(lns (u++[10])).map pS=l.map some) (hl:l.length<=60):pM (u++[10])=some l:=by
 obtain ⟨h1,h2⟩:=okS_map h
 have ho:okM l:=⟨hl,h1⟩
 refine unF_some (fun _ _=>fmtM_inj) ho ?_
 rw [fmtM_ok ho,<-h2,lns_nil (spl_end 10 u),cat_spl]
theorem pM_ref {s:List UInt8} {l:List (Int × DP)} (h:(lns s).map pS=l.map some):pM s=if fmtM l=s then some l else none:=by
 obtain ⟨h1,h2⟩:=okS_map h
 by_cases e:fmtM l=s
 ·rw [if_pos e]
  by_cases hl:l.length<=60
  ·exact unF_some (fun _ _=>fmtM_inj) ⟨hl,h1⟩ e
  ·exfalso
   have e0:fmtM l=[]:=if_pos (by omega)
   rw [e0] at e
   subst e
   have:lns []=[]:=lns_nil (o:=[]) rfl
   rw [this] at h2
   have:l.length=0:=by rw [<-List.length_map (f:=fmtS),<-h2]; rfl
   omega
 ·rw [if_neg e]
  refine unF_none fun m hm em=>e ?_
  have:=lns_pS hm
  rw [em,h] at this
  rw [some_inj this]; exact em
theorem nth_lns {w:List (List UInt8)} {k:Nat} (h:k < w.length):@nth .str (w.map bs) k=bs w[k]:=by
 rw [nth,List.getD_eq_getElem?_getD,List.getElem?_map,List.getElem?_eq_getElem h]; rfl
theorem parseStep_none {s:List UInt8} (hl:s.length<=1048576) (h:pS s=none):FnT Tryz.prog 30 [⟨.str,bs s⟩] [⟨tStep,(0,(((false,[]),[]),((false,[]),[])))⟩,⟨.bool,false⟩]:=by
 have:=parseStep_fn s hl
 rw [h] at this
 exact this
theorem parseStep_some {s:List UInt8} {x:Int × DP} (hl:s.length<=1048576) (h:pS s=some x):FnT Tryz.prog 30 [⟨.str,bs s⟩] [⟨tStep,x⟩,⟨.bool,true⟩]:=by
 have:=parseStep_fn s hl
 rw [h] at this
 exact this
theorem line_len {s:List UInt8}:∀ x ∈ lns s,x.length<=s.length:=by
 have h:∀ (s:List UInt8),∀ x ∈ spl 10 s,x.length<=s.length:=by
  intro s
  induction s with
  | nil=>intro x hx; rw [List.mem_singleton.1 hx]; exact Nat.le_refl _
  | cons b l ih =>
   intro x hx
   rw [spl] at hx
   split at hx
   ·rcases List.mem_cons.1 hx with e|e
    ·rw [e]; exact Nat.zero_le _
    ·exact Nat.le_trans (ih x e) (by rw [List.length_cons]; omega)
   ·split at hx
    ·rw [List.mem_singleton.1 hx,List.length_cons]; exact Nat.succ_le_succ (Nat.zero_le _)
    ·rename_i y r e
     rcases List.mem_cons.1 hx with e2|e2
     ·rw [e2,List.length_cons,List.length_cons]
      exact Nat.succ_le_succ (ih y (by rw [e]; exact List.mem_cons_self))
     ·exact Nat.le_trans (ih x (by rw [e]; exact List.mem_cons_of_mem _ e2)) (by rw [List.length_cons]; omega)
 intro x hx
 unfold lns at hx
 split at hx
 ·exact h s x (List.dropLast_subset _ hx)
 ·exact h s x hx
theorem map_snoc {w:List (List UInt8)} {o:List (Int × DP)} {k:Nat} {x:Int × DP} (hk:k < w.length) (h:(w.take k).map pS=o.map some) (hx:pS w[k]=some x):(w.take (k+1)).map pS=(o++[x]).map some:=by
 rw [<-List.take_append_getElem hk,List.map_append,List.map_append,h,List.map_singleton,List.map_singleton,hx]
theorem parseMotion_lines (u:List UInt8) (hl:(u++[10]).length<=1048576):FnT Tryz.prog 35 [⟨.str,bs (u++[10])⟩] [⟨.slice tStep,(pM (u++[10])).getD []⟩,⟨.bool,(pM (u++[10])).isSome⟩]:=by
 have c1:=hasSuffix_fn u 10 hl
 have c2:=splitLines_fn (u++[10]) hl
 have hyes:=@pM_yes u
 have hne:u++[10] ≠ []:=fun e=>by cases (List.append_eq_nil_iff.1 e).2
 have hll:=lns_len (u++[10])
 generalize u++[10]=s at hl c1 c2 hyes hne hll
 refine fnT_enter tabOK mixes Tryz.func35 rfl rfl _ Tryz.ntmps35 _ Tryz.results35 (by simp) fun hwf=>?_
 try simp (maxSteps:=9^9) only[go_sem,hne]
 repeat refine AI ?_
 refine cw c1 ?_
 try simp (maxSteps:=9^9) only[go_sem]
 repeat refine AI ?_
 refine cw c2 ?_
 try simp (maxSteps:=9^9) only[go_sem]
 refine LoopG.intro _ _ _ (fun y:Nat × List (Int × DP)=>⟨[(2,.sc (.slice none 0 0)),(3,.sc (.bool false)),(4,.row 4 0),(16,.sl .str ((lns s).map bs)),(17,.sc (.int .i64 (((lns s).map bs).length:Int))),(18,.sc (.int .i64 y.1))],[(4,.row 48 tStep 0 true y.2)]⟩) (fun y=>y.1<=(lns s).length/\y.2.length=y.1/\y.1<=60/\((lns s).take y.1).map pS=y.2.map some) (fun y=>(lns s).length - y.1) (0,[]) ?_ ⟨Nat.zero_le _,rfl,Nat.zero_le _,rfl⟩ ?_
 ·refine Wk.mk [(4,0)] ?_
  try simp (maxSteps:=9^9) only[go_sem]
  try (and_intros<;>first|rfl|omega|exact ⟨_,rfl⟩)
 ·have hlm:((lns s).map bs).length=(lns s).length:=List.length_map ..
  rintro ⟨k,o⟩ ⟨k1,k2,k3,k4⟩
  dsimp only at k1 k2 k3 k4
  try simp (maxSteps:=9^9) only[go_sem]
  refine CondW_dec (fun h4=>?_) (fun h4=>?_)
  ·have hk:k < (lns s).length:=by omega
   have hx:(lns s)[k].length<=1048576:=Nat.le_trans (line_len _ (List.getElem_mem hk)) hl
   have hnt:=nth_lns hk
   cases hp:pS (lns s)[k] with
   | none =>
    rw [pM_no1 hk hp]
    try simp (maxSteps:=9^9) only[go_sem]
    refine ⟨by omega,by omega,?_⟩
    simp only [hnt]
    refine CallW.to (parseStep_none hx hp) ?_
    try simp (maxSteps:=9^9) only[go_sem]
   | some x =>
    try simp (maxSteps:=9^9) only[go_sem]
    refine ⟨by omega,by omega,?_⟩
    simp only [hnt]
    refine CallW.to (parseStep_some hx hp) ?_
    try simp (maxSteps:=9^9) only[go_sem]
    refine CondW_dec (fun h5=>?_) (fun h5=>?_)
    ·rw [pM_no2 (show 60 < (lns s).length by omega)]
     try simp (maxSteps:=9^9) only[go_sem]
    ·try simp (maxSteps:=9^9) only[go_sem]
     refine ⟨by omega,by omega,i64_nat (by omega) (by omega),LoopK.mk (k+1,o++[x]) ?_ ⟨hk,by dsimp only; rw [List.length_append,k2]; rfl,by dsimp only; omega,map_snoc hk k4 hp⟩ (by dsimp only; omega)⟩
     exact WK
  ·have hkl:k=(lns s).length:=by omega
   rw [hkl,List.take_length] at k4
   rw [hyes k4 (by omega)]
   try simp (maxSteps:=9^9) only[go_sem]
theorem parseMotion_fn (s:List UInt8) (hl:s.length<=1048576):FnT Tryz.prog 35 [⟨.str,bs s⟩] [⟨.slice tStep,(pM s).getD []⟩,⟨.bool,(pM s).isSome⟩]:=by
 rcases List.eq_nil_or_concat s with e|⟨u,b,e⟩
 ·subst e
  rw [pM_nil]
  refine fnT_enter tabOK mixes Tryz.func35 rfl rfl _ Tryz.ntmps35 _ Tryz.results35 (by simp) fun hwf=>?_
  try simp (maxSteps:=9^9) only[go_sem]
 ·rw [List.concat_eq_append] at e
  by_cases hb:b=10
  ·subst hb
   rw [e] at hl ⊢
   exact parseMotion_lines u hl
  ·have c1:=hasSuffix_fn u b (by rw [<-e]; exact hl)
   have hno:=@pM_no3 u b hb
   have hne:s ≠ []:=fun h=>by rw [h] at e; cases (List.append_eq_nil_iff.1 e.symm).2
   rw [<-e] at c1 hno
   rw [decide_eq_false hb] at c1
   rw [hno]
   refine fnT_enter tabOK mixes Tryz.func35 rfl rfl _ Tryz.ntmps35 _ Tryz.results35 (by simp) fun hwf=>?_
   try simp (maxSteps:=9^9) only[go_sem,hne]
   repeat refine AI ?_
   refine cw c1 ?_
   try simp (maxSteps:=9^9) only[go_sem]
theorem parseStepS_none {s:List UInt8} (hl:s.length<=1048576) (h:pS s=none):Fn Tryz.prog 29 [⟨.str,bs s⟩] false [⟨tStep,(0,(((false,[]),[]),((false,[]),[])))⟩,⟨.bool,false⟩]:=by
 have:=parseStepS_fn s hl
 rw [h] at this
 exact this
theorem parseStepS_some {s:List UInt8} {x:Int × DP} (hl:s.length<=1048576) (h:pS s=some x):Fn Tryz.prog 29 [⟨.str,bs s⟩] false [⟨tStep,x⟩,⟨.bool,true⟩]:=by
 have:=parseStepS_fn s hl
 rw [h] at this
 exact this
theorem parseMotionS_fn (s:List UInt8) (hl:s.length<=1048576):Fn Tryz.prog 39 [⟨.str,bs s⟩] false [⟨.slice tStep,(pM s).getD []⟩,⟨.bool,(pM s).isSome⟩]:=by
 have c2:=splitLinesS_fn s hl
 have hll:=lns_len s
 refine fe Tryz.func39 Tryz.ntmps39 Tryz.results39 fun hwf=>?_
 try simp (maxSteps:=9^9) only[go_sem]
 repeat refine AI ?_
 refine cw c2 ?_
 try simp (maxSteps:=9^9) only[go_sem]
 refine LoopG.intro _ _ _ (fun y:Nat × List (Int × DP)=>⟨[(0,.sc (.string (bs s))),(2,.sc (.slice none 0 0)),(3,.sc (.bool false)),(4,.row 4 0),(11,.sl .str ((lns s).map bs)),(12,.sc (.int .i64 (((lns s).map bs).length:Int))),(13,.sc (.int .i64 y.1))],[(4,.row 48 tStep 0 false y.2)]⟩) (fun y=>y.1<=(lns s).length/\y.2.length=y.1/\((lns s).take y.1).map pS=y.2.map some) (fun y=>(lns s).length - y.1) (0,[]) ?_ ⟨Nat.zero_le _,rfl,rfl⟩ ?_
 ·refine Wk.mk [(4,0)] ?_
  try simp (maxSteps:=9^9) only[go_sem]
  try (and_intros<;>first|rfl|omega|exact ⟨_,rfl⟩)
 ·have hlm:((lns s).map bs).length=(lns s).length:=List.length_map ..
  rintro ⟨k,o⟩ ⟨k1,k2,k4⟩
  dsimp only at k1 k2 k4
  try simp (maxSteps:=9^9) only[go_sem]
  refine CondW_dec (fun h4=>?_) (fun h4=>?_)
  ·have hk:k < (lns s).length:=by omega
   have hx:(lns s)[k].length<=1048576:=Nat.le_trans (line_len _ (List.getElem_mem hk)) hl
   have hnt:=nth_lns hk
   cases hp:pS (lns s)[k] with
   | none =>
    rw [pM_no1 hk hp]
    try simp (maxSteps:=9^9) only[go_sem]
    refine ⟨by omega,by omega,?_⟩
    simp only [hnt]
    refine cw (parseStepS_none hx hp) ?_
    try simp (maxSteps:=9^9) only[go_sem]
   | some x =>
    try simp (maxSteps:=9^9) only[go_sem]
    refine ⟨by omega,by omega,?_⟩
    simp only [hnt]
    refine cw (parseStepS_some hx hp) ?_
    try simp (maxSteps:=9^9) only[go_sem]
    refine ⟨by omega,by omega,i64_nat (by omega) (by omega),LoopK.mk (k+1,o++[x]) ?_ ⟨hk,by dsimp only; rw [List.length_append,k2]; rfl,map_snoc hk k4 hp⟩ (by dsimp only; omega)⟩
    exact WK
  ·have hkl:k=(lns s).length:=by omega
   rw [hkl,List.take_length] at k4
   rw [pM_ref k4]
   try simp (maxSteps:=9^9) only[go_sem]
   refine cw (formatMotionS_fn o) ?_
   try simp (maxSteps:=9^9) only[go_sem]
   refine CondW_not (fun h=>?_) (fun h=>?_)
   ·rw [if_neg h]
    try simp (maxSteps:=9^9) only[go_sem]
   ·rw [if_pos h]
    try simp (maxSteps:=9^9) only[go_sem]
theorem okR_len {r:DR} (h:okR r=true):r.1.2.length<=24/\r.2.length<=24:=by
 obtain ⟨p,hp,rfl,_⟩:=okR_t h
 exact hp
end Go.Proofs.YtaeckjmkjhffnaaGreatDoor.DW

namespace Go.Proofs.YtaeckjmkjhffnaaGreatDoor
open Go.RowKit DW
theorem cn_okPt {q:DW.DP} (h:DW.okPt q=true):cnPoint q<=96:=by
 obtain ⟨h1,h2⟩:=DW.okPt_parts h
 have a1:=okR_len h1
 have a2:=okR_len h2
 show (q.1.1.2.length+q.1.2.length)+(q.2.1.2.length+q.2.2.length)<=96
 omega
end Go.Proofs.YtaeckjmkjhffnaaGreatDoor

namespace Go.Proofs.YtaeckjmkjhffnaaGreatDoor
open Go.RowKit DW
theorem ec_le (x:DStep):ecStep x<=cnStep x+3:=by
 show 1+((1+x.2.1.1.2.length+x.2.1.2.length)+(1+x.2.2.1.2.length+x.2.2.2.length))<=((x.2.1.1.2.length+x.2.1.2.length)+(x.2.2.1.2.length+x.2.2.2.length))+3
 omega
theorem cn_steps:∀ (l:DStepS),(∀ x ∈ l,cnStep x<=96)->cnStepS l<=99 * l.length
 | [],_=>Nat.zero_le _
 | x :: l,h=>by
  have h1:=h x List.mem_cons_self
  have h2:=cn_steps l fun y hy=>h y (List.mem_cons_of_mem _ hy)
  have h3:=ec_le x
  rw [cnStepS,List.length_cons]; omega
theorem cn_pm (s:List UInt8):cnStepS ((DW.pM s).getD [])<=3145728:=by
 cases h:DW.pM s with
 | none=>exact Nat.zero_le _
 | some l =>
  obtain ⟨h1,h2⟩:=(DW.unF_eq h).1
  have:=cn_steps l fun x hx=>cn_okPt (h2 x hx).2
  show cnStepS l<=3145728
  omega
end Go.Proofs.YtaeckjmkjhffnaaGreatDoor

namespace Go.Proofs.YtaeckjmkjhffnaaGreatDoor.DW
open Go.RowKit
set_option maxHeartbeats 8000000 in
theorem lawParseMotion_fn (x0:List UInt8):Fn Tryz.prog 9 [⟨.str,bs x0⟩] false [⟨.bool,true⟩]:=by
 refine fe Tryz.func9 Tryz.ntmps9 Tryz.results9 fun hwf=>?_
 try simp (maxSteps:=9^9) only[go_sem]
 refine CondW_dec (fun hlt=>?_) (fun hge=>?_)
 ·try simp (maxSteps:=9^9) only[go_sem]
 have hle0:x0.length<=1048576:=by omega
 clear hge
 try simp (maxSteps:=9^9) only[go_sem]
 repeat refine AI ?_
 refine cw (parseMotionS_fn x0 hle0) ?_
 try simp (maxSteps:=9^9) only[go_sem]
 repeat refine AI ?_
 refine CallW.t (parseMotion_fn x0 hle0) ?_
 try simp (maxSteps:=9^9) only[go_sem]
 repeat refine AI ?_
 refine CallW.mx (eqStepS_fn ((pM x0).getD []) ((pM x0).getD [])) ?_
 try simp (maxSteps:=9^9) only[go_sem]
 have hcg:=cn_pm x0
 repeat refine AI ?_
 refine CallW.m (markStepS_fn ((pM x0).getD []) 1 (by omega) (by omega)) ?_
 try simp (maxSteps:=9^9) only[go_sem]
 repeat refine AI ?_
 refine CallW.mx (heldStepS_fn ((pM x0).getD []) 1 (by omega) (by omega)) ?_
 try simp (maxSteps:=9^9) only[go_sem]
 repeat refine AI ?_
 refine CondW_dec (fun hlt=>absurd hlt (by omega)) (fun _=>?_)
 try simp (maxSteps:=9^9) only[go_sem]
 repeat refine AI ?_
 refine CallW.t (parseMotion_fn x0 hle0) ?_
 try simp (maxSteps:=9^9) only[go_sem]
 repeat refine AI ?_
 refine CallW.mx (eqStepS_fn ((pM x0).getD []) ((pM x0).getD [])) ?_
 try simp (maxSteps:=9^9) only[go_sem]
 repeat refine AI ?_
 refine CallW.mx (heldStepS_fn ((pM x0).getD []) 1 (by omega) (by omega)) ?_
 try simp (maxSteps:=9^9) only[go_sem]
 repeat refine AI ?_
 refine CondW_dec (fun hlt=>absurd hlt (by omega)) (fun _=>?_)
 try simp (maxSteps:=9^9) only[go_sem]
end Go.Proofs.YtaeckjmkjhffnaaGreatDoor.DW
namespace Go.Proofs.YtaeckjmkjhffnaaGreatDoor
open Go.RowKit DW
theorem law_FnExactParseMotion (x0:List UInt8) (w:World) (hz0:x0.length<=maxLen) (hg:DW.Gw Tryz.prog w) :
  Calls Tryz.prog 9 #[.string (DW.bs x0)] w (Post fun r w'=>r=.bool true/\Below w.heap.size w w') :=
 (DW.lawParseMotion_fn x0).bool (vs:=[.string (DW.bs x0)]) ⟨Arg.str (by rw [DW.bs_size]; exact hz0),trivial⟩ hg
end Go.Proofs.YtaeckjmkjhffnaaGreatDoor

namespace Go.Proofs.YtaeckjmkjhffnaaGreatDoor.DW
open Go.RowKit
theorem gw_of_laid {W:World} {a b:String × DataW Unit} {rest:List (String × DataW Unit)} (h:laidMet Tryz.prog (a :: b :: ("internal/strconv.uint64pow10",Rows.laid_internal_strconv_uint64pow10) :: rest) W):Gw Tryz.prog W:=by
 obtain ⟨ps,⟨g0,t0,cs0,f0,p0,q0,hg0,ht0,hv0,hd0,⟨g1,t1,cs1,f1,p1,q1,hg1,ht1,hv1,hd1,⟨g2,t2,cs2,f2,p2,q2,hg2,ht2,hv2,hd2,_,_⟩,_⟩,_⟩,_⟩:=h
 have hgn:Tryz.prog.globalNamed tabName=some 3:=by kernel_rfl
 have hty:(Tryz.prog.globals[3]?).map (·.type)=some 205:=by kernel_rfl
 obtain rfl:=Option.some.inj (hgn.symm.trans hg2)
 obtain rfl:=Option.some.inj (hty.symm.trans ht2)
 have hd3:DataW.trod _ Tryz.prog W _ _ _ f2 205 cs2.toList=some (Lib.tabData .u64 Lib.pow10Tab,p2):=hd2
 have hcs:=Lib.cells_of_tab Tryz.underlying205 Tryz.underlying191 (by kernel_rfl) (by kernel_rfl) hd3
 intro g hg
 obtain rfl:=Option.some.inj (hgn.symm.trans hg)
 refine ⟨?_,?_⟩
 ·unfold World.var? at hv2
  rw [hgn] at hv2
  simp only [Option.bind_some] at hv2
  by_cases hlt:3 < W.heap.size
  ·exact hlt
  ·rw [Array.getElem?_eq_none (by omega)] at hv2; cases hv2
 ·unfold Lib.TabIs
  rw [hv2,<-hcs]
end Go.Proofs.YtaeckjmkjhffnaaGreatDoor.DW
