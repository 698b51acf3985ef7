/-
  Texts of a proof, one behind another: DwU, DwI, DwK, DwJ, DwL, DwY, DwX, DwZ, DwM, DwN, DwO.
-/
import Derived.Laws.MakeOwn
import Derived.Laws.Cover3
import Derived.Maps.Keyed
import Derived.Laws.BytesString
import Derived.Lib.ConvBytes
import Derived.Orders
import Derived.Test.YtkaclgdhlpphhaaGreatKSl1
set_option linter.all false
open Nat (le_refl zero_le le_trans mul_le_mul_right add_zero mul_comm zero_add add_mul mod_lt lt_or_ge min_eq_left succ_mul add_assoc zero_mul)
open List (mem_append replicate mem_singleton mem_cons mem_cons_self getElem?_eq_getElem mem_cons_of_mem length_append length_take mem_flatMap getElem?_take mem_map length_set getElem_of_mem all_eq_true getD_eq_getElem?_getD length_cons mem_flatten map_cons getElem?_append_left length_drop append_nil nil_append getElem?_map getElem?_append_right getElem?_drop getElem?_replicate flatten_cons append_assoc nodup_append mem_of_mem_take mem_of_mem_drop mem_range nodup_cons length_nil take_append_drop all_cons size_toArray mem_filter getElem?_toArray flatMap_cons ext_getElem? foldl_cons map_nil getElem?_zip_eq_some toList_toArray length flatten_append all_nil)
open Array (getElem?_toList toList_inj toList_map length_toList getD_eq_getD_getElem?)
open Bool (false_eq_true not_eq_true')
open Option (map_some getD_some or_eq_some_iff)
noncomputable section
namespace Go.Proofs.YtkaclgdhlpphhaaGreat
namespace DW
open Go.RowKit
section
variable {P:Program} {T:TypeId->Option Ty} {c:Cx} [Nonempty (CG P c)] {lt:Nat->Option AV} {lm:Nat->Option ay} {nx:Nat} {K:bb->Prop} {o:Oper}
theorem PO (hnx:∀k,nx<=k->lm k=none) {fop:Operand} {xs:Array Operand} {tys:Array TypeId} (ho:o.op=.call { callee:=.value fop,args:=xs,argTypes:=tys }) {f:FuncId} {vs:List AV} (hf:ev lt fop=some (.sc (.func (.func f) #[] #[]))) (hvs:ia lt xs.toList=some vs) (hok:vs.all AV.ok=true) (h:VY P lm nx K f vs):∃e,K e/\aT P c lt lm nx o e:=by
 ·obtain⟨args,own,res,hfn,hargs,hK⟩:=h
  refine⟨_,hK,?_⟩
  clear hK
  have hrows:∀v ∈ vs,∀k ∈ v.rows,k ∈ vs.flatMap AV.rows:=fun v hv k hk=>mem_flatMap.2 ⟨v,hv,hk⟩
  have hrun:∀(σ:St) (Γ:aC) (a:Act) (w:World),aH c σ Γ a w->(∀t ∈ kG o,look σ.tmps t=lt t)->(execOp a.eval o).run P w=.ok (.enter f (xs.map a.eval)) w/\aA (fun v x=>bq c σ.mem Γ w v (a.eval x)) vs xs.toList:=by
   intro σ Γ a w hs hl
   have hl':∀x ∈ o.op.operands.toList,∀t,x=.tmp t->look σ.tmps t=lt t:=fun x hx t e=>hl t (fX hx e)
   have e1:a.eval fop=_:=(ll hs (hl' fop (by simp[ho,Op.operands,Call.operands])) hf:aR c σ.mem Γ w _ (a.eval fop)).1
   refine⟨?_,mN hs (fun x hx=>hl' x (by simp only[ho,Op.operands,Call.operands]; simp; exact .inr (by simpa using hx))) hvs hok⟩
   have h0:=hfn.1 (xs.map a.eval) w
   simp[execOp,ho,resolve,e1,Deferred.ofValue,invoke,h0]
  have hmems:∀p ∈ (fT lm nx (vs.flatMap AV.rows) own res).j3,nx<=p.1\/p.1 ∈ (fT lm nx (vs.flatMap AV.rows) own res).rd:=by
   intro p hp
   unfold fT at hp ⊢
   split at hp
   ·rename_i d
    cases own with
    | true=>exact .inl (cX p hp).1
    | false =>
     simp only[false_eq_true,if_false] at hp ⊢
     cases hfl:d.1.flat with
     | true=>simp only[hfl,if_true] at hp; cases hp
     | false =>
      simp only[hfl,false_eq_true,if_false] at hp ⊢
      exact .inr (fj hp)
   ·exact .inr (fj hp)
  have hrd:(fT lm nx (vs.flatMap AV.rows) own res).rd=vs.flatMap AV.rows:=by
   unfold fT
   split
   ·split
    ·rfl
    ·split<;>rfl
   ·rfl
  refine⟨hmems,fun σ Γ a w hs hl hm hn hd K Q hK=>?_⟩
  rw[hrd] at hm hn
  obtain⟨hr,hv⟩:=hrun σ Γ a w hs hl
  unfold Oper.wp
  rw[hr,Oper.upon_enter]
  have hfin:∀(σ':St) (Γ':aC) (w':World) (v:AV) (u:Value),σ'.tmps=σ.tmps->aH c σ' Γ' a w'->aR c σ'.mem Γ' w' v u->(fT lm nx (vs.flatMap AV.rows) own res).v=v->(fT lm nx (vs.flatMap AV.rows) own res).j3++σ.mem=σ'.mem->K (a.put o.dst u) w':=by
   intro σ' Γ' w' v u e0 hs' hvr e1 e2
   refine hK Γ' _ _ ?_
   have:=hs'.put (d:=o.dst) hvr (fun x hx=>hd x hx)
   unfold St.app
   rw[e1,e2]
   cases hdst:o.dst<;>simp only[hdst,St.put,<-e0] at this ⊢<;>exact this
  have hma:xs.map a.eval=(xs.toList.map a.eval).toArray:=toList_inj.1 (by rw[toList_map])
  rw[hma]
  have hrows':∀v ∈ vs,∀k ∈ v.rows,look σ.mem k=lm k:=fun v hv k hk=>hm k (hrows v hv k hk)
  have hnm:∀b,c.base<=b->w.heap.size<=b->Gd c σ.mem Γ b:=fun b h1 h2=>⟨.inr h1,fun⟨k,B,hB,hmb⟩=>by have:=(hs.eE hB hmb).2; omega⟩
  cases hap:pC own res with
  | true =>
   match res,hap with
   | [d],hap =>
    have hda:=iv (S:=fun _=>True) hv hargs (fun v d u hvm hvr hi=>by
     rw[hap] at hi
     have hi:dw lm d v:=hi
     obtain⟨fp,h1,_⟩:=hs.jN hvr (cV (hrows' v hvm) hi)
     exact⟨fp,h1,fun _ _=>trivial⟩)
    refine (hfn.2 w _ _ (jj hs) hda).mono ?_
    rintro e w' ⟨hb,u,rfl,fp,hdr,hown,hfp⟩
    have hs':=hs.frame hb
    cases own with
    | true =>
     have ho:=hown rfl
     obtain⟨cs,hpk,hrp⟩:=hdr
     have hn':∀p ∈ (DW.aN nx d.1 d.2).2,look σ.mem p.1=none:=fun p hp=>by
      by_cases hin:p.1 ∈ vs.flatMap AV.rows
      ·rw[hm p.1 hin]; exact hnx _ (cX p hp).1
      ·exact hn p hp hin
     obtain⟨Γ',s1,r1,_,_,_⟩:=hs'.aN (k:=nx) hrp ⟨ho.1,fun b hbb=>⟨.inl (le_trans hs.hb (ho.2 b hbb).1),(ho.2 b hbb).2⟩⟩ (fun b hbb=>hnm b (le_trans hs.hb (ho.2 b hbb).1) (ho.2 b hbb).1)
      (fun b hbb j B hj hbo=>by have h1:=hs.CT hj hbo; have h2:=(ho.2 b hbb).1; omega) hn'
     refine hfin ⟨σ.tmps,(DW.aN nx d.1 d.2).2++σ.mem⟩ Γ' w' (jI nx d) u rfl s1 ?_ rfl rfl
     unfold jI
     rcases hpk with ⟨hag,rfl⟩|⟨hag,rfl⟩
     ·rw[hag]; exact⟨cs,rfl,r1⟩
     ·rw[hag]
      obtain⟨v,hv1⟩:=oJ (k:=nx) (x:=d.2) hag
      rw[hv1] at r1 ⊢
      exact mK r1.1
    | false =>
     have hfl:d.1.flat=true:=by simpa [pC] using hap
     have hfp0:fp=[]:=by obtain⟨cs,_,hrp⟩:=hdr; exact fL hfl hrp
     subst hfp0
     refine hfin σ Γ w' (av d.1 d.2) u rfl hs' (b8 (jn hdr fun b hbb=>by cases hbb)) ?_ ?_<;>simp[fT,hfl]
   | [],hap=>cases hap
   | _ :: _ :: _,hap=>cases hap
  | false =>
   have hf':=hs.tR (ks:=vs.flatMap AV.rows)
   have hcongr:aJ (look σ.mem) (vs.flatMap AV.rows)=aJ lm (vs.flatMap AV.rows):=gN fun k hk=>hm k hk
   rw[hcongr] at hf'
   have hda:=iv (S:=fun b=>Gd c (aJ lm (vs.flatMap AV.rows)++σ.mem) Γ b) (hrun _ Γ a w hf' hl).2 hargs (fun v d u hvm hvr hi=>by
    rw[hap] at hi
    have hi:dw (fun j=>(look (aJ lm (vs.flatMap AV.rows)) j).or (lm j)) d v:=hi
    obtain⟨fp,h1,_,h3⟩:=hf'.jN hvr (cV (fun k hk=>by rw[a8,hrows' v hvm k hk]) hi)
    refine⟨fp,h1,h3 fun k hk e t v' o' l hrow=>?_⟩
    rw[<-hcongr] at hrow
    exact (pA hrow).1 (hrows v hvm k hk))
   refine (hfn.2 w _ _ (jj hs) hda).mono ?_
   rintro e w' ⟨hb,u,rfl,hres⟩
   have hs':=hf'.frame hb
   have hgd:∀b,Gd c (aJ lm (vs.flatMap AV.rows)++σ.mem) Γ b\/w.heap.size<=b->Gd c (aJ lm (vs.flatMap AV.rows)++σ.mem) Γ b:=fun b hbb=>hbb.elim id fun h2=>⟨.inr (le_trans hs.hb h2),fun⟨k,B,hB,hmb⟩=>by have:=(hf'.eE hB hmb).2; omega⟩
   have hone:∀(u:Value) (d:aL),oy false w.heap.size (fun b=>Gd c (aJ lm (vs.flatMap AV.rows)++σ.mem) Γ b) w' u d->bq c (aJ lm (vs.flatMap AV.rows)++σ.mem) Γ w' (av d.1 d.2) u:=fun u d ⟨fp,hdr,_,hfp⟩=>jn hdr fun b hbb=>hgd b (hfp b hbb)
   match res,hap,hres with
   | [d],hap,hres =>
    have hown:own=false:=by cases own<;>simp[pC] at hap ⊢
    have hfl:d.1.flat=false:=by simpa [pC,hown] using hap
    subst hown
    refine hfin ⟨σ.tmps,aJ lm (vs.flatMap AV.rows)++σ.mem⟩ Γ w' (av d.1 d.2) u rfl hs' (b8 (hone u d hres)) ?_ ?_<;>simp[fT,hfl]
   | [],hap,⟨us,hu,hres⟩ =>
    refine hfin ⟨σ.tmps,aJ lm (vs.flatMap AV.rows)++σ.mem⟩ Γ w' (.dY []) u rfl hs' ⟨us,hu,by cases us with|nil=>trivial|cons=>exact hres.elim⟩ ?_ ?_<;>simp[fT]
   | d1 :: d2 :: ds,hap,⟨us,hu,hres⟩ =>
    refine hfin ⟨σ.tmps,aJ lm (vs.flatMap AV.rows)++σ.mem⟩ Γ w' (.dY ((d1 :: d2 :: ds).map fun d=>av d.1 d.2)) u rfl hs' ⟨us,hu,?_⟩ ?_ ?_
    ·generalize d1 :: d2 :: ds=L at hres
     clear hu
     induction L generalizing us with
     | nil=>cases us with|nil=>trivial|cons=>exact hres.elim
     | cons d L ih=>cases us with
      | nil=>exact hres.elim
      | cons u us=>exact⟨hone u d hres.1,ih us hres.2⟩
    ·simp[fT]
    ·simp[fT]
theorem MM {σ:St} {Γ:aC} {a:Act} {w w':World} {d:aL} {u:Value} {fp:List Nat} {rows:List Nat} {Kc:Act->World->Prop} (hs:aH c σ Γ a w) (hb:Below w.heap.size w w') (hdr:bV w' u d fp) (ho2:kF w.heap.size w' fp) (hn':∀p ∈ (DW.aN nx d.1 d.2).2,look σ.mem p.1=none) (hd:∀x,o.dst=some x->x < c.n)
  (hK:∀ Γ' a' w',aH c (σ.app o.dst ⟨jI nx d,(aN nx d.1 d.2).2,rows⟩) Γ' a' w'->Kc a' w'):Kc (a.put o.dst u) w':=by
 have hs':=hs.frame hb
 have hnm:∀b,c.base<=b->w.heap.size<=b->Gd c σ.mem Γ b:=fun b h1 h2=>⟨.inr h1,fun⟨k,B,hB,hmb⟩=>by have:=(hs.eE hB hmb).2; omega⟩
 obtain⟨cs,hpk,hrp⟩:=hdr
 obtain⟨Γ',s1,r1,_,_,_⟩:=hs'.aN (k:=nx) hrp ⟨ho2.1,fun b hbb=>⟨.inl (le_trans hs.hb (ho2.2 b hbb).1),(ho2.2 b hbb).2⟩⟩ (fun b hbb=>hnm b (le_trans hs.hb (ho2.2 b hbb).1) (ho2.2 b hbb).1)
  (fun b hbb j B hj hbo=>by have h1:=hs.CT hj hbo; have h2:=(ho2.2 b hbb).1; omega) hn'
 have hvr:aR c ((DW.aN nx d.1 d.2).2++σ.mem) Γ' w' (jI nx d) u:=by
  unfold jI
  rcases hpk with ⟨hag,rfl⟩|⟨hag,rfl⟩
  ·rw[hag]; exact⟨cs,rfl,r1⟩
  ·rw[hag]
   obtain⟨v,hv1⟩:=oJ (k:=nx) (x:=d.2) hag
   rw[hv1] at r1 ⊢
   exact mK r1.1
 refine hK Γ' _ _ ?_
 have:=s1.put (d:=o.dst) hvr (fun x hx=>hd x hx)
 unfold St.app
 cases hdst:o.dst<;>simp only[hdst,St.put] at this ⊢<;>exact this
theorem Qe (hnx:∀k,nx<=k->lm k=none) {fop:Operand} {xs:Array Operand} {tys:Array TypeId} (ho:o.op=.call { callee:=.value fop,args:=xs,argTypes:=tys }) {f:FuncId} {vs:List AV} (hf:ev lt fop=some (.sc (.func (.func f) #[] #[]))) (hvs:ia lt xs.toList=some vs) (hok:vs.all AV.ok=true)
  (h:Wm P lm nx K f vs):∃e,K e/\aT P c lt lm nx o e:=by
 obtain⟨args,d,hfn,hargs,hK⟩:=h
 refine⟨_,hK,?_⟩
 clear hK
 refine⟨fun p hp=>.inl (cX p hp).1,fun σ Γ a w hs hl hm hn hd K Q hK=>?_⟩
 obtain⟨hr,hv⟩:=dR ho hf hvs hok hfn.1 σ Γ a w hs hl
 unfold Oper.wp
 rw[hr,Oper.upon_enter]
 have hma:xs.map a.eval=(xs.toList.map a.eval).toArray:=toList_inj.1 (by rw[toList_map])
 rw[hma]
 have hda:=Gg hv hargs fun v d u hvm hvr hi=>by
  have hm':∀j ∈ Fc v,look σ.mem j=lm j:=fun j hj=>hm j (mem_flatMap.2 ⟨v,hvm,hj⟩)
  have std:dw (kJ lm) d v->Fc v=v.rows->∃fp,bV w u d fp/\∀b ∈ fp,(fun _=>True) b:=fun hi hr=>by
   obtain⟨fp,h1⟩:=hs.qO hvr (cV (fun k hk=>by simp only[kJ,hm' k (hr ▸ hk)]) hi)
   exact⟨fp,h1,fun _ _=>trivial⟩
  cases v with
  | mX k ver off =>
   cases off with
   | zero =>
    obtain⟨fp,h1⟩:=hs.qO hvr (cV (fun k hk=>by cases hk) hi)
    exact⟨fp,h1,fun _ _=>trivial⟩
   | succ n =>
    unfold wP at hi
    dsimp only at hi
    split at hi
    ·rename_i vv e t l hk
     obtain⟨rfl,hfl,hn,rfl⟩:=hi
     obtain⟨fp,h1⟩:=XZ hs ((hm' k mem_cons_self).trans hk) hvr hn
     exact⟨fp,h1,fun _ _=>trivial⟩
    ·exact hi.elim
  | _=>exact std hi rfl
 refine (hfn.2 w _ _ (jj hs) hda).mono ?_
 rintro e w' ⟨hb,u,rfl,fp,hdr,hown,hfp⟩
 refine MM hs hb hdr (hown rfl) (fun p hp=>?_) hd hK
 by_cases hin:p.1 ∈ vs.flatMap Fc
 ·rw[hm p.1 hin]; exact hnx _ (cX p hp).1
 ·exact hn p hp hin
theorem P7 (hnx:∀k,nx<=k->lm k=none) {fop:Operand} {xs:Array Operand} {tys:Array TypeId} (ho:o.op=.call { callee:=.value fop,args:=xs,argTypes:=tys }) {f:FuncId} {vs:List AV} (hf:ev lt fop=some (.sc (.func (.func f) #[] #[]))) (hvs:ia lt xs.toList=some vs) (hok:vs.all AV.ok=true)
  (h:WI P lm nx K f vs):∃e,K e/\aT P c lt lm nx o e:=by
 obtain⟨args,te,t,l,hfn,hargs,hK⟩:=h
 refine⟨_,hK,?_⟩
 clear hK
 have hrows:∀v ∈ vs,∀k ∈ v.rows,k ∈ vs.flatMap AV.rows:=fun v hv k hk=>mem_flatMap.2 ⟨v,hv,hk⟩
 refine⟨fun p hp=>?_,fun σ Γ a w hs hl hm hn hd K Q hK=>?_⟩
 ·simp only[mem_singleton] at hp
  subst hp
  exact .inl (le_refl _)
 obtain⟨hr,hv⟩:=dR ho hf hvs hok hfn.1 σ Γ a w hs hl
 unfold Oper.wp
 rw[hr,Oper.upon_enter]
 have hma:xs.map a.eval=(xs.toList.map a.eval).toArray:=toList_inj.1 (by rw[toList_map])
 rw[hma]
 have hda:=iv (S:=fun _=>True) hv hargs (fun v d u hvm hvr hi=>by
  obtain⟨fp,h1⟩:=hs.qO hvr (cV (fun k hk=>by simp only[kJ,hm k (hrows v hvm k hk)]) hi)
  exact⟨fp,h1,fun _ _=>trivial⟩)
 refine (hfn.2 w _ _ (jj hs) hda).mono ?_
 rintro e w' ⟨hb,u,fps,rfl,h1,hg,hown,hne⟩
 have hk:look σ.mem nx=none:=by
  by_cases hin:nx ∈ vs.flatMap AV.rows
  ·rw[hm nx hin]; exact hnx _ (le_refl _)
  ·exact hn (nx,.row te t 0 true l) mem_cons_self hin
 have hg':bh t.rp c.base w' te u l fps:=by
  obtain⟨xs,⟨g1,g2⟩,g3,g4⟩:=hg
  refine⟨xs,⟨g1,?_⟩,g3,g4⟩
  rcases g2 with g2|⟨g,cap,cur,q1,q2,q3⟩
  ·exact .inl g2
  ·exact .inr ⟨g,cap,cur,q1,le_trans hs.hb q2,q3⟩
 have s1:=hs.newRow hk hb hg' (fun b hbo=>(hg.own hbo).1) (fun b hbf=>.inl ⟨(hown.2 b hbf).1,hne b hbf⟩)
  (fun _=>⟨⟨hown.1,fun b hbf=>⟨.inl (le_trans hs.hb (hown.2 b hbf).1),(hown.2 b hbf).2⟩⟩,fun b hbf j B hj hbo=>by have h1:=hs.CT hj hbo; have h2:=(hown.2 b hbf).1; omega⟩) (o:=true)
 refine hK (Γ.fB nx u fps.flatten) _ _ ?_
 have:=s1.put (d:=o.dst) (v:=.row nx 0) (u:=u) ⟨h1,_,aD ..,le_refl _,fun _=>by rw[aC.cI]⟩ (fun x hx=>hd x hx)
 unfold St.app
 cases hdst:o.dst<;>simp only[hdst,St.put] at this ⊢<;>exact this
theorem aA.sK {α β γ:Type} {R:α->γ->Prop} (f:β->γ):∀{l:List α} {m:List β},aA (fun a b=>R a (f b)) l m->aA R l (m.map f)
 | [],[],_=>trivial
 | _ :: _,_ :: _,⟨h1,h2⟩=>⟨h1,aA.sK f h2⟩
 | [],_ :: _,h=>h.elim
 | _ :: _,[],h=>h.elim
theorem u9 {t:Ty} {base:Nat} {w:World} {e:TypeId} {v:Value} {l:List t.den} {fps:List (List Nat)} (hf:t.flat=true) (h:bh t.rp base w e v l fps):fps.flatten=[]:=by
 obtain⟨xs,_,hl,he⟩:=h
 rw[List.flatten_eq_nil_iff]
 intro f hfm
 obtain⟨i,hi,rfl⟩:=getElem_of_mem hfm
 obtain⟨f',cs,h1,h2,_⟩:=he i (l[i]'J) (getElem?_eq_getElem J)
 rw[getElem?_eq_getElem hi] at h1
 injection h1 with h1
 rw[h1]
 exact fL hf h2
theorem IT {M:Mm} {Γ:aC} {w:World}:∀{xs:List lC} {us:List Value},aA (fun v u=>bq c M Γ w v u) (xs.map fun c=>AV.sc c.val) us->us=xs.map lC.val
 | [],[],_=>rfl
 | x :: xs,u :: us,⟨h1,h2⟩=>by
  have e:u=x.val:=h1.1
  rw[e,IT h2]; rfl
 | [],_ :: _,h=>h.elim
 | _ :: _,[],h=>h.elim
theorem QF {fop:Operand} {xs:Array Operand} {tys:Array TypeId} (ho:o.op=.call { callee:=.value fop,args:=xs,argTypes:=tys }) {f:FuncId} {vs:List AV} (hf:ev lt fop=some (.sc (.func (.func f) #[] #[]))) (hvs:ia lt xs.toList=some vs) (hok:vs.all AV.ok=true)
  (h:WW P lm K f vs):∃e,K e/\aT P c lt lm nx o e:=by
 obtain⟨cx,te,t,l,l',ret,k,ver,oo,hfn,rfl,hk,hK⟩:=h
 refine⟨_,hK,?_⟩
 clear hK
 refine⟨fun p hp=>?_,fun σ Γ a w hs hl hm hn hd K Q hK=>?_⟩
 ·rw[mem_singleton] at hp; subst hp; exact .inr (mem_singleton.2 rfl)
 obtain⟨hr,hv⟩:=dR ho hf hvs hok hfn.1 σ Γ a w hs hl
 unfold Oper.wp
 rw[hr,Oper.upon_enter]
 have hma:xs.map a.eval=(xs.toList.map a.eval).toArray:=toList_inj.1 (by rw[toList_map])
 rw[hma]
 have hk':look σ.mem k=some (.row te t ver oo l):=(hm k (mem_singleton.2 rfl)).trans hk
 have hv':=hv.sK a.eval
 generalize xs.toList.map a.eval=us at hv' ⊢
 match us,hv' with
 | u :: us,⟨hv1,hv2⟩ =>
  have hus:=IT hv2
  subst hus
  obtain⟨h1,B,hB,hh⟩:=hv1
  rw[hk'] at hB; injection hB with hB; subst hB
  have hu2:u=Γ.hd k:=hh.2 rfl
  obtain⟨fps,hg,hfp,hgds,_⟩:=hs.mm k _ hk'
  subst hu2
  refine (hfn.2 w 0 (Γ.hd k) fps (jj hs) (fun b hb e=>(hgds b (hfp ▸ hb)).2 ⟨k,_,hk',e⟩) (fun g hb g' hg'=>Oh (c:=c) (hg.own hb).1.or g' hg') h1 hg.1).mono ?_
  rintro en w' ⟨v',fps',rfl,hrv,h1',hob,hg',hgr,hsub⟩
  have hs2:=hs.uH (o':=t.flat) (ver':=if ret then ver+1 else ver) (v':=v') hk' hg' hgr (.inl hob)
   (by cases ret with
    | true=>exact .inl rfl
    | false=>exact .inr ⟨rfl,hrv rfl⟩)
   (fun b hb=>⟨hg.lt b (hsub b hb),hgds b (hfp ▸ hsub b hb)⟩) (fun hfl=>by rw[u9 hfl hg']; exact⟨cO _ _,fun b hb=>by cases hb⟩)
  refine hK (Γ.fB k v' fps'.flatten) _ _ ?_
  have:=hs2.put (d:=o.dst) (v:=if ret then .row k (ver+1) else .dY []) (u:=if ret then v' else .tuple #[]) (by
   cases ret with
   | true=>exact⟨h1',_,aD ..,le_refl _,fun _=>by rw[aC.cI]; rfl⟩
   | false=>exact⟨[],rfl,trivial⟩) (fun x hx=>hd x hx)
  unfold St.app
  cases hdst:o.dst<;>simp only[hdst,St.put] at this ⊢<;>exact this
 | [],h=>exact h.elim
theorem Gq (hT:bD P T) {ty:TypeId} {x y:Operand} (ho:o.op=.store ty x y) (h:vq T lt lm K ty x y):∃e,K e/\aT P c lt lm nx o e:=h.1.elim
theorem vS {ks:List Nat}:∀{lm:Nat->Option ay} {k:Nat},(lm k).bind ay.fz=none->look (aJ lm ks) k=none:=by
 induction ks with
 | nil=>intro lm k _; rfl
 | cons j ks ih =>
  intro lm k h
  simp only[aJ]
  split
  ·rename_i B hB
   have hkj:k ≠ j:=by rintro rfl; rw[h] at hB; cases hB
   rw[a8,ih (by rw[if_neg hkj]; exact h),aG _ _ hkj]; rfl
  ·exact ih h
theorem Mp {M:Mm} {Γ:aC} {w:World} {hd:AV} {u:Value} {t:Ty} {l:List t.den} (h:SU hd=some ⟨t,l⟩) (hc:aQ c M Γ w hd u):∃fp,(Rp.slice t.rp t.pos).rep w [u] l fp/\∀b ∈ fp,Gd c M Γ b:=by
 cases hd with
 | sl s m=>injection h with h; injection h with h1 h2; subst h1; obtain rfl:=eq_of_heq h2; exact hc
 | fx v s m=>injection h with h; injection h with h1 h2; subst h1; obtain rfl:=eq_of_heq h2; exact hc.2
 | _=>cases h
theorem zo {M:Mm} {Γ:aC} {w:World}:∀{zs us:List Value},aA (aQ c M Γ w) (zs.map fun z=>AV.sc z) us->us=zs/\∀z ∈ zs,jO z
 | [],[],_=>⟨rfl,fun z h=>by cases h⟩
 | z :: zs,u :: us,⟨h1,h2⟩=>by
  obtain⟨rfl,h3⟩:=zo h2
  obtain⟨rfl,_,h5⟩:=h1
  exact⟨rfl,fun x hx=>(mem_cons.1 hx).elim (fun e=>e ▸ h5) (h3 x)⟩
 | [],_ :: _,h=>h.elim
 | _ :: _,[],h=>h.elim
theorem yN {M:Mm} {Γ:aC} {w:World}:∀{zs:List Value},(∀z ∈ zs,z.oneCell'=true/\jO z)->aA (aQ c M Γ w) (zs.map fun z=>AV.sc z) zs
 | [],_=>trivial
 | z :: zs,h=>⟨⟨rfl,(h z mem_cons_self).1,(h z mem_cons_self).2⟩,yN fun x hx=>h x (mem_cons_of_mem _ hx)⟩
theorem aH.Y8 {σ:St} {Γ:aC} {a:Act} {w:World} (h:aH c σ Γ a w) {k:Nat} {x:Option Nat} {cs cs':List AV} {us:Array Value} {e:TypeId} (hk:look σ.mem k=some (.bx x cs)) (hc:aA (aQ c σ.mem Γ w) cs' us.toList) :
  aH c ⟨σ.tmps,(k,.bx x cs') :: σ.mem⟩ Γ a { w with heap:=w.heap.setIfInBounds (Γ.loc k x) (.cells us e (0,0)) }:=by
 obtain⟨hb,cur,e0,hg,hcur⟩:=h.mm k _ hk
 have hlt:Γ.loc k x < w.heap.size:=nG hg
 refine h.yf ⟨fun j _=>⟨rfl,rfl,rfl⟩,rfl,rfl,rfl,by simp,fun b _ hm=>?_,fun b hb=>.inr ⟨_,hk,hb⟩,fun b hb=>by simp[ay.bY] at hb⟩ ?_ ?_ ?_ ?_
 ·show (w.heap.setIfInBounds _ _)[b]? = _
  rw[Array.getElem?_setIfInBounds_ne]
  intro e; exact hm _ hk e.symm
 ·rintro ver u ⟨_,B,hB,_⟩; rw[hk] at hB; injection hB with hB; subst hB; trivial
 ·rintro ver i off u ⟨h1,B,hB,_⟩; exact⟨h1,_,aD ..,fun e t v o l hh=>by cases hh⟩
 ·intro x2 cs2 h2
  rw[hk] at h2
  injection h2 with h2
  injection h2 with h3 h4
  subst h3
  exact⟨⟨_,rfl⟩,rfl⟩
 ·intro hcr
  refine⟨hb,us,e,?_,hc.mono fun v u _ hv=>hcr v u hv⟩
  show (w.heap.setIfInBounds _ _)[_]? = _
  rw[Array.getElem?_setIfInBounds_self_of_lt hlt]
theorem Q0 (hnx:∀k,nx<=k->lm k=none) {fop:Operand} {xs:Array Operand} {tys:Array TypeId} (ho:o.op=.call { callee:=.value fop,args:=xs,argTypes:=tys }) {f:FuncId} {vs:List AV} (hf:ev lt fop=some (.sc (.func (.func f) #[] #[]))) (hvs:ia lt xs.toList=some vs) (hok:vs.all AV.ok=true)
  (h:WO P lm nx K f vs):∃e,K e/\aT P c lt lm nx o e:=by
 obtain⟨t,l,zs,zs',args,own,d,mn,k,vs',hfn,rfl,hpl,hargs,h⟩:=h
 split at h
 ·rename_i xo hd cs hk
  obtain⟨hfx,rfl,hK⟩:=h
  refine⟨_,hK,?_⟩
  clear hK
  have hrows:∀v ∈ vs',∀j ∈ v.rows,j ∈ vs'.flatMap AV.rows:=fun v hv j hj=>mem_flatMap.2 ⟨v,hv,hj⟩
  have hknx:k < nx:=by
   rcases lt_or_ge k nx with h|h
   ·exact h
   ·rw[hnx k h] at hk; cases hk
  have hkf:look (aJ lm (vs'.flatMap AV.rows)) k=none:=vS (by rw[hk]; rfl)
  have hen:∀p ∈ (if (own && !d.1.flat) then if mn then dF (DW.aN nx d.1 d.2).2 else (DW.aN nx d.1 d.2).2 else []),∃q ∈ (DW.aN nx d.1 d.2).2,q.1=p.1:=by
   intro p hp
   split at hp
   ·split at hp
    ·exact zG hp
    ·exact⟨p,hp,rfl⟩
   ·cases hp
  refine⟨fun p hp=>?_,fun σ Γ a w hs hl hm hn hdd K Q hK=>?_⟩
  ·rcases mem_append.1 hp with hp|hp
   ·obtain⟨q,hq,e⟩:=hen p hp
    rw[<-e]; exact .inl (cX q hq).1
   ·rcases mem_cons.1 hp with rfl|hp
    ·exact .inr mem_cons_self
    ·exact .inr (mem_cons_of_mem _ (fj hp))
  obtain⟨hr,hv⟩:=dR ho hf hvs hok hfn.1 σ Γ a w hs hl
  unfold Oper.wp
  rw[hr,Oper.upon_enter]
  have hma:xs.map a.eval=(xs.toList.map a.eval).toArray:=toList_inj.1 (by rw[toList_map])
  rw[hma]
  have hmr:∀j ∈ vs'.flatMap AV.rows,look σ.mem j=lm j:=fun j hj=>hm j (mem_cons_of_mem _ hj)
  have hf':=hs.tR (ks:=vs'.flatMap AV.rows)
  have hcongr:aJ (look σ.mem) (vs'.flatMap AV.rows)=aJ lm (vs'.flatMap AV.rows):=gN fun k hk=>hmr k hk
  rw[hcongr] at hf'
  have hkM:look (aJ lm (vs'.flatMap AV.rows)++σ.mem) k=some (.bx xo (hd :: zs.map fun z=>.sc z)):=by
   rw[fV hkf,hm k mem_cons_self]; exact hk
  obtain⟨hloc,us,e,hg,hc⟩:=hf'.mm k _ hkM
  obtain⟨u0,us0,hus,hc0,hc1⟩:∃u0 us0,us.toList=u0 :: us0/\aQ c (aJ lm (vs'.flatMap AV.rows)++σ.mem) Γ w hd u0/\aA (aQ c (aJ lm (vs'.flatMap AV.rows)++σ.mem) Γ w) (zs.map fun z=>.sc z) us0:=by
   cases hul:us.toList with
   | nil=>rw[hul] at hc; exact hc.elim
   | cons u0 us0=>rw[hul] at hc; exact⟨u0,us0,rfl,hc.1,hc.2⟩
  obtain⟨rfl,hzok⟩:=zo hc1
  obtain⟨fp0,hr0,hg0⟩:=Mp hfx hc0
  have hg':w.heap[Γ.loc k xo]? = some (.cells (u0 :: us0).toArray e (0,0)):=by rw[hg,<-hus]
  have hlt:Γ.loc k xo < w.heap.size:=nG hg
  generalize hxl:xs.toList=xl at hv hvs
  match xl,hv with
  | x0 :: xl',⟨hv0,hv'⟩ =>
   obtain⟨xo',cs',hq,hp0⟩:=(show aQ c σ.mem Γ w (.ptr k 0) (a.eval x0) from hv0)
   rw[hm k mem_cons_self,hk] at hq
   injection hq with hq; injection hq with hq1 hq2; subst hq1
   have hvf:aA (fun v x=>bq c (aJ lm (vs'.flatMap AV.rows)++σ.mem) Γ w v (a.eval x)) vs' xl':=by
    have:=(dR ho hf (by rw[hxl]; exact hvs) hok hfn.1 _ Γ a w hf' hl).2
    rw[hxl] at this
    exact this.2
   have hda:=iv (S:=fun b=>Gd c (aJ lm (vs'.flatMap AV.rows)++σ.mem) Γ b) hvf hargs (fun v d u hvm hvr hi=>by
    have hi:dw (fun j=>(look (aJ lm (vs'.flatMap AV.rows)) j).or (lm j)) d v:=hi
    obtain⟨fp,h1,_,h3⟩:=hf'.jN hvr (cV (fun k hk=>by rw[a8,hmr k (hrows v hvm k hk)]) hi)
    refine⟨fp,h1,h3 fun k hk e t v' o' l hrow=>?_⟩
    rw[<-hcongr] at hrow
    exact (pA hrow).1 (hrows v hvm k hk))
   rw[map_cons,hp0]
   refine (hfn.2.2 w _ u0 e fp0 _ _ (jj hs) (Oh (hf'.eE hkM rfl).1) hg' hzok hr0 hg0 (fun h=>h.2 ⟨k,_,hkM,rfl⟩) hda).mono ?_
   rintro en w' ⟨hbx,⟨e',hge⟩,u,rfl,fp,hdr,hown,hfp⟩
   have hs1:=hf'.Y8 (us:=(u0 :: zs').toArray) (e:=e') (cs':=hd :: zs'.map fun z=>.sc z) hkM ⟨hc0,yN hfn.2.1⟩
   generalize hw1:({ w with heap:=w.heap.setIfInBounds (Γ.loc k xo) (.cells (u0 :: zs').toArray e' (0,0)) }:World)=w1 at hs1
   have hsz:w1.heap.size=w.heap.size:=by rw[<-hw1]; simp
   have hb1:Below w1.heap.size w1 w':=by
    refine⟨by rw[<-hw1]; exact hbx.os,by rw[<-hw1]; exact hbx.tape,by rw[<-hw1]; exact hbx.output,by rw[hsz]; exact hbx.size,fun b hb=>?_⟩
    rw[hsz] at hb
    by_cases hbb:b=Γ.loc k xo
    ·subst hbb
     rw[hge,<-hw1]
     show _=(w.heap.setIfInBounds _ _)[_]?
     rw[Array.getElem?_setIfInBounds_self_of_lt hlt]
    ·rw[hbx.block b hb hbb,<-hw1]
     show _=(w.heap.setIfInBounds _ _)[_]?
     rw[Array.getElem?_setIfInBounds_ne (fun h=>hbb h.symm)]
   have hfin:∀(σ':St) (Γ':aC) (w':World) (v:AV) (u:Value),σ'.tmps=σ.tmps->aH c σ' Γ' a w'->aR c σ'.mem Γ' w' v u->(A4 lm nx (vs'.flatMap AV.rows) k xo hd zs' (own && !d.1.flat) mn d).v=v->(A4 lm nx (vs'.flatMap AV.rows) k xo hd zs' (own && !d.1.flat) mn d).j3++σ.mem=σ'.mem->K (a.put o.dst u) w':=by
    intro σ' Γ' w' v u e0 hs' hvr e1 e2
    refine hK Γ' _ _ ?_
    have:=hs'.put (d:=o.dst) hvr (fun x hx=>hdd x hx)
    unfold St.app
    rw[e1,e2]
    cases hdst:o.dst<;>simp only[hdst,St.put,<-e0] at this ⊢<;>exact this
   cases hfl:d.1.flat with
   | true =>
    have hfp0:fp=[]:=by obtain⟨cs,_,hrp⟩:=hdr; exact fL hfl hrp
    subst hfp0
    refine hfin ⟨σ.tmps,(k,ay.bx xo (hd :: zs'.map fun z=>.sc z)) :: (aJ lm (vs'.flatMap AV.rows)++σ.mem)⟩ Γ w' (av d.1 d.2) u rfl (hs1.frame hb1) (b8 (jn hdr fun b hbb=>by cases hbb)) ?_ ?_<;>simp[A4,hfl]
   | false =>
    have hown2:own=true/\d.1.plain=true:=by simpa [hfl] using hpl
    obtain⟨rfl,hplain⟩:=hown2
    have ho':=hown rfl
    rw[<-hsz] at ho'
    obtain⟨cs,hpk,hrp⟩:=hdr
    have hn':∀p ∈ (DW.aN nx d.1 d.2).2,look ((k,ay.bx xo (hd :: zs'.map fun z=>.sc z)) :: (aJ lm (vs'.flatMap AV.rows)++σ.mem)) p.1=none:=fun p hp=>by
     have h1:=(cX p hp).1
     rw[aG _ _ J,fV (vS (by rw[hnx _ h1]; rfl))]
     by_cases hin:p.1 ∈ vs'.flatMap AV.rows
     ·rw[hmr p.1 hin]; exact hnx _ h1
     ·have hq:∃q ∈ (if mn then dF (DW.aN nx d.1 d.2).2 else (DW.aN nx d.1 d.2).2),q.1=p.1:=by
       cases mn with
       | true=>exact wT hp
       | false=>exact⟨p,hp,rfl⟩
      obtain⟨q,hq,e⟩:=hq
      rw[<-e]
      refine hn q ?_ ?_
      ·show q ∈ (if (true && !d.1.flat) then _ else _)++_
       rw[hfl]
       exact mem_append.2 (.inl hq)
      ·rw[e]
       intro hmem
       rcases mem_cons.1 hmem with h2|h2
       ·omega
       ·exact hin h2
    have hpkv:∀{M:Mm} {Γ':aC},aA (aQ c M Γ' w') (DW.aN nx d.1 d.2).1 cs->aR c M Γ' w' (jI nx d) u:=by
     intro M Γ' r1
     unfold jI
     rcases hpk with ⟨hag,rfl⟩|⟨hag,rfl⟩
     ·rw[hag]; exact⟨cs,rfl,r1⟩
     ·rw[hag]
      obtain⟨v,hv1⟩:=oJ (k:=nx) (x:=d.2) hag
      rw[hv1] at r1 ⊢
      exact mK r1.1
    cases mn with
    | true =>
     obtain⟨Γ',s1,r1⟩:=hs1.Eh hb1 hplain hrp ho' hn'
     refine hfin ⟨σ.tmps,dF (DW.aN nx d.1 d.2).2++(k,ay.bx xo (hd :: zs'.map fun z=>.sc z)) :: (aJ lm (vs'.flatMap AV.rows)++σ.mem)⟩ Γ' w' (jI nx d) u rfl s1 (hpkv r1) ?_ ?_<;>simp[A4,hfl]
    | false =>
     have hs2:=hs1.frame hb1
     have hnm:∀b,c.base<=b->w1.heap.size<=b->Gd c ((k,ay.bx xo (hd :: zs'.map fun z=>.sc z)) :: (aJ lm (vs'.flatMap AV.rows)++σ.mem)) Γ b:=fun b h1 h2=>⟨.inr h1,fun⟨k,B,hB,hmb⟩=>by have:=(hs1.eE hB hmb).2; omega⟩
     obtain⟨Γ',s1,r1,_,_,_⟩:=hs2.aN (k:=nx) hrp ⟨ho'.1,fun b hbb=>⟨.inl (le_trans hs1.hb (ho'.2 b hbb).1),(ho'.2 b hbb).2⟩⟩ (fun b hbb=>hnm b (le_trans hs1.hb (ho'.2 b hbb).1) (ho'.2 b hbb).1)
      (fun b hbb j B hj hbo=>by have h1:=hs1.CT hj hbo; have h2:=(ho'.2 b hbb).1; omega) hn'
     refine hfin ⟨σ.tmps,(DW.aN nx d.1 d.2).2++(k,ay.bx xo (hd :: zs'.map fun z=>.sc z)) :: (aJ lm (vs'.flatMap AV.rows)++σ.mem)⟩ Γ' w' (jI nx d) u rfl s1 (hpkv r1) ?_ ?_<;>simp[A4,hfl]
  | [],hv=>exact hv.elim
 ·exact h.elim
theorem PV (hnx:∀k,nx<=k->lm k=none) {fop:Operand} {xs:Array Operand} {tys:Array TypeId} (ho:o.op=.call { callee:=.value fop,args:=xs,argTypes:=tys }) {f:FuncId} {vs:List AV} (hf:ev lt fop=some (.sc (.func (.func f) #[] #[]))) (hvs:ia lt xs.toList=some vs) (hok:vs.all AV.ok=true)
  (h:V8 P lm nx K f vs):∃e,K e/\aT P c lt lm nx o e:=by
 obtain⟨t,l,zs,args,v,vs',hfn,rfl,hfx,hargs,hK⟩:=h
 refine⟨_,hK,?_⟩
 clear hK
 have hrows:∀v ∈ vs',∀j ∈ v.rows,j ∈ vs'.flatMap AV.rows:=fun v hv j hj=>mem_flatMap.2 ⟨v,hv,hj⟩
 refine⟨fun p hp=>?_,fun σ Γ a w hs hl hm hn hdd K Q hK=>?_⟩
 ·rcases mem_cons.1 hp with rfl|hp
  ·exact .inl (le_refl _)
  ·exact .inr (fj hp)
 obtain⟨hr,hv⟩:=dR ho hf hvs hok hfn.1 σ Γ a w hs hl
 unfold Oper.wp
 rw[hr,Oper.upon_enter]
 have hma:xs.map a.eval=(xs.toList.map a.eval).toArray:=toList_inj.1 (by rw[toList_map])
 rw[hma]
 have hf':=hs.tR (ks:=vs'.flatMap AV.rows)
 have hcongr:aJ (look σ.mem) (vs'.flatMap AV.rows)=aJ lm (vs'.flatMap AV.rows):=gN fun k hk=>hm k hk
 rw[hcongr] at hf'
 generalize hxl:xs.toList=xl at hv hvs
 match xl,hv with
 | x0 :: xl',_ =>
  have hvf:=(dR ho hf (by rw[hxl]; exact hvs) hok hfn.1 _ Γ a w hf' hl).2
  rw[hxl] at hvf
  obtain⟨hv0,hvf⟩:=hvf
  have hda:=iv (S:=fun b=>Gd c (aJ lm (vs'.flatMap AV.rows)++σ.mem) Γ b) hvf hargs (fun v d u hvm hvr hi=>by
   have hi:dw (fun j=>(look (aJ lm (vs'.flatMap AV.rows)) j).or (lm j)) d v:=hi
   obtain⟨fp,h1,_,h3⟩:=hf'.jN hvr (cV (fun k hk=>by rw[a8,hm k (hrows v hvm k hk)]) hi)
   refine⟨fp,h1,h3 fun k hk e t v' o' l hrow=>?_⟩
   rw[<-hcongr] at hrow
   exact (pA hrow).1 (hrows v hvm k hk))
  have hc0:aQ c (aJ lm (vs'.flatMap AV.rows)++σ.mem) Γ w v (a.eval x0):=by
   cases v<;>first|exact hv0|cases hfx
  obtain⟨fp0,hr0,hg0⟩:=Mp hfx hc0
  rw[map_cons]
  refine (hfn.2.2 w _ fp0 _ _ (jj hs) hr0 hg0 hda).mono ?_
  rintro en w' ⟨hb,b,e,rfl,hbs,hgb⟩
  have hnone:look (aJ lm (vs'.flatMap AV.rows)++σ.mem) nx=none:=by
   rw[fV (vS (by rw[hnx _ (le_refl _)]; rfl))]
   by_cases hin:nx ∈ vs'.flatMap AV.rows
   ·rw[hm nx hin]; exact hnx _ (le_refl _)
   ·exact hn (nx,_) mem_cons_self hin
  have hs1:aH c ⟨σ.tmps,(nx,.box (v :: zs.map fun z=>.sc z)) :: (aJ lm (vs'.flatMap AV.rows)++σ.mem)⟩ (Γ.iZ nx b) a w':=by
   refine hf'.yf ⟨aC.D2 Γ nx _,hb.os,hb.tape,hb.output,hb.size,fun b' hlt _=>hb.block b' hlt,fun b' hb'=>.inl ?_,fun b' hb'=>by simp[ay.bY] at hb'⟩ ?_ ?_ ?_ ?_
   ·have:b'=(Γ.iZ nx b).β nx:=hb'
    rw[aC.iJ] at this; omega
   ·rintro ver u ⟨_,B,hB,_⟩; rw[hnone] at hB; cases hB
   ·rintro ver i off u ⟨_,B,hB,_⟩; rw[hnone] at hB; cases hB
   ·intro x cs hB; rw[hnone] at hB; cases hB
   ·intro hcr
    refine⟨(by show c.base<=(Γ.iZ nx b).β nx; rw[aC.iJ]; exact le_trans hs.hb hbs),(a.eval x0 :: zs).toArray,e,(by show w'.heap[(Γ.iZ nx b).β nx]? = _; rw[aC.iJ]; exact hgb),hcr _ _ hc0,yN hfn.2.1⟩
  refine hK (Γ.iZ nx b) _ _ ?_
  have:=hs1.put (d:=o.dst) (v:=.ptr nx 0) (u:=.pointer (some ⟨b,0,none⟩)) ⟨none,_,aD ..,by show _=Value.pointer (some ⟨(Γ.iZ nx b).β nx,0,none⟩); rw[aC.iJ]⟩ (fun x hx=>hdd x hx)
  unfold St.app
  cases hdst:o.dst<;>simp only[hdst,St.put] at this ⊢<;>exact this
 | [],hv=>exact hv.elim
theorem TP {lm:Nat->Option ay} {v:AV} {d:sF} (h:v.data (nW lm)=some d):v.data lm=some d/\∀k ver,v=.row k ver->∀e t v o l,lm k ≠ some (.row e t v o l):=by
 cases v with
 | row k ver =>
  simp only[AV.data,nW] at h ⊢
  cases hl:lm k with
  | none=>rw[hl] at h; cases h
  | some B =>
   rw[hl] at h
   cases B with
   | cU t l=>exact⟨h,fun k' ver' e e' t' v' o' l' hh=>by injection e with e1 _; subst e1; rw[hl] at hh; cases hh⟩
   | jH t v l=>exact⟨h,fun k' ver' e e' t' v' o' l' hh=>by injection e with e1 _; subst e1; rw[hl] at hh; cases hh⟩
   | _=>cases h
 | sl s m=>exact⟨h,fun k' ver' e=>by cases e⟩
 | fx u s m=>exact⟨h,fun k' ver' e=>by cases e⟩
 | _=>cases h
theorem nJ {lm:Nat->Option ay}:∀{t:Ty} {x:t.den} {cs:List AV},Is (nW lm) t x cs->Is lm t x cs/\∀k ver,AV.row k ver ∈ cs->∀e t v o l,lm k ≠ some (.row e t v o l)
 | .int,_,cs,h=>⟨h,fun k ver hm=>by have h:cs=_:=h; subst h; simp at hm⟩
 | .bool,_,cs,h=>⟨h,fun k ver hm=>by have h:cs=_:=h; subst h; simp at hm⟩
 | .str,_,cs,h=>⟨h,fun k ver hm=>by have h:cs=_:=h; subst h; simp at hm⟩
 | .u8,_,cs,h=>⟨h,fun k ver hm=>by have h:cs=_:=h; subst h; simp at hm⟩
 | .dr _,_,cs,h=>⟨h,fun k ver hm=>by have h:cs=_:=h; subst h; simp at hm⟩
 | .ext e a,x,cs,h=>⟨h,fun k ver hm=>by
  rcases h with rfl|⟨_,rfl⟩
  ·cases x<;>cases e<;>simp[zZ] at hm
  ·simp at hm⟩
 | .slice a,l,cs,⟨v,e,hv⟩=>by
  rcases hv with hv|⟨rfl,rfl⟩
  ·obtain⟨h1,h2⟩:=TP hv
   refine⟨⟨v,e,.inl h1⟩,fun k ver hm=>?_⟩
   rw[e,mem_singleton] at hm
   exact h2 k ver hm.symm
  ·exact⟨⟨_,e,.inr ⟨rfl,rfl⟩⟩,fun k ver hm=>by rw[e] at hm; simp at hm⟩
 | .prod a b,x,cs,⟨h1,h2⟩=>by
  obtain⟨i1,g1⟩:=nJ h1
  obtain⟨i2,g2⟩:=nJ h2
  refine⟨⟨i1,i2⟩,fun k ver hm=>?_⟩
  rw[<-take_append_drop a.size cs,mem_append] at hm
  exact hm.elim (g1 k ver) (g2 k ver)
theorem P1 {fop:Operand} {xs:Array Operand} {tys:Array TypeId} (ho:o.op=.call { callee:=.value fop,args:=xs,argTypes:=tys }) {f:FuncId} {vs:List AV} (hf:ev lt fop=some (.sc (.func (.func f) #[] #[]))) (hvs:ia lt xs.toList=some vs) (hok:vs.all AV.ok=true)
  (h:WH P lm K f vs):∃e,K e/\aT P c lt lm nx o e:=by
 obtain⟨args,d,hfn,hargs,hK⟩:=h
 refine⟨_,hK,?_⟩
 clear hK
 have hrows:∀v ∈ vs,∀k ∈ v.rows,k ∈ vs.flatMap AV.rows:=fun v hv k hk=>mem_flatMap.2 ⟨v,hv,hk⟩
 refine⟨fun p hp=>(by cases hp),fun σ Γ a w hs hl hm hn hd K Q hK=>?_⟩
 obtain⟨hr,hv⟩:=dR ho hf hvs hok hfn.1 σ Γ a w hs hl
 unfold Oper.wp
 rw[hr,Oper.upon_enter]
 have hma:xs.map a.eval=(xs.toList.map a.eval).toArray:=toList_inj.1 (by rw[toList_map])
 rw[hma]
 have hda:=iv (S:=fun b=>Gd c σ.mem Γ b) hv hargs (fun v d u hvm hvr hi=>by
  have hcg:∀k ∈ v.rows,look σ.mem k=lm k:=fun k hk=>hm k (hrows v hvm k hk)
  have key:dw lm d v/\∀k ∈ v.rows,∀e t v o l,lm k ≠ some (.row e t v o l):=by
   cases v with
   | agg cs =>
    obtain⟨i1,g1⟩:=nJ hi.2
    refine⟨⟨hi.1,i1⟩,fun k hk=>?_⟩
    obtain⟨cv,hcv,hkv⟩:=mem_flatMap.1 hk
    cases cv<;>simp at hkv
    subst hkv
    exact g1 _ _ hcv
   | row k ver =>
    obtain⟨i1,g1⟩:=nJ hi.2
    exact⟨⟨hi.1,i1⟩,fun k' hk=>by
     rw[mem_singleton.1 hk]
     exact g1 k ver mem_cons_self⟩
   | _=>exact⟨⟨hi.1,(nJ hi.2).1⟩,fun k hk=>by cases hk⟩
  obtain⟨fp,h1,_,h3⟩:=hs.jN hvr (cV hcg key.1)
  exact⟨fp,h1,h3 fun k hk e t v' o' l hrow=>key.2 k hk e t v' o' l ((hcg k hk).symm.trans hrow)⟩)
 refine (hfn.2 w _ _ (jj hs) hda).mono ?_
 rintro e w' ⟨hb,u,rfl,fp,hdr,_,hfp⟩
 have hs':=hs.frame hb
 have hgd:∀b,Gd c σ.mem Γ b\/w.heap.size<=b->Gd c σ.mem Γ b:=fun b hbb=>hbb.elim id fun h2=>⟨.inr (le_trans hs.hb h2),fun⟨k,B,hB,hmb⟩=>by have:=(hs.eE hB hmb).2; omega⟩
 refine hK Γ _ _ ?_
 have:=hs'.put (d:=o.dst) (b8 (jn hdr fun b hbb=>hgd b (hfp b hbb))) (fun x hx=>hd x hx)
 unfold St.app
 cases hdst:o.dst<;>simp only[hdst,St.put,nil_append] at this ⊢<;>exact this
def su (σ:St) (Γ:aC) (kc b:Nat):Prop:=∀B,look σ.mem kc=some B->match B with
 | .ob xo _ d=>lJ d (Γ.ov kc xo)=some b
 | .bx xo _=>Γ.loc kc xo=b
 | _=>True
theorem X4 {σ:St} {Γ:aC} {a:Act} {w:World} (hs:aH c σ Γ a w) {kc:Nat} (hl:look σ.mem kc=lm kc):∃b,su σ Γ kc b/\rM lm kc b:=by
 unfold su rM
 rw[<-hl]
 cases hB:look σ.mem kc with
 | none=>exact⟨0,(fun B h=>by cases h),trivial⟩
 | some B =>
  cases B with
  | ob xo v d =>
   obtain⟨b,o,h1,_⟩:=hs.mm kc _ hB
   refine⟨b,(fun B h=>by injection h with h; subst h; exact h1),?_⟩
   cases xo with
   | none=>trivial
   | some v=>exact h1
  | bx xo cs =>
   refine⟨Γ.loc kc xo,(fun B h=>by injection h with h; subst h; rfl),?_⟩
   cases xo with
   | none=>trivial
   | some v=>rfl
  | _=>exact⟨0,(fun B h=>by injection h with h; subst h; trivial),trivial⟩
def Sb (c:Cx) (σ:St) (Γ:aC) (kc y:Nat):Prop:=Gd c σ.mem Γ y\/∃k B,k ≠ kc/\look σ.mem k=some B/\B.mut Γ k y
theorem A9 {σ:St} {Γ:aC} {a:Act} {w:World} (hs:aH c σ Γ a w) {kc b:Nat} (hb:su σ Γ kc b):∀{t:Ty} {x:t.den} {cs:List AV} {us:List Value},aA (aQ c σ.mem Γ w) cs us->jt (look σ.mem) kc b t x cs->∃fp,t.rp.rep w us x fp/\∀y ∈ fp,Gd c σ.mem Γ y:=by
 have leaf:∀{t:Ty} {x:t.den} {cs:List AV} {us:List Value},aA (aQ c σ.mem Γ w) cs us->Is (nW (look σ.mem)) t x cs->∃fp,t.rp.rep w us x fp/\∀y ∈ fp,Gd c σ.mem Γ y:=by
  intro t x cs us hc hi
  obtain⟨i1,g1⟩:=nJ hi
  obtain⟨fp,h1,_,h3⟩:=hs.j7 hc i1
  exact⟨fp,h1,h3 g1⟩
 intro t
 induction t with
 | prod A B ihA ihB =>
  intro x cs us hc ⟨h1,h2⟩
  have hl:=hc.len
  obtain⟨f1,r1,g1⟩:=ihA (hc.take _) h1
  obtain⟨f2,r2,g2⟩:=ihB (hc.drop _) h2
  exact⟨f1++f2,⟨_,_,f1,f2,(take_append_drop _ _).symm,rfl,r1,r2⟩,fun y hy=>(mem_append.1 hy).elim (g1 y) (g2 y)⟩
 | dr f =>
  cases f with
  | mp m =>
   intro x cs us hc h
   have h:Av (look σ.mem) kc b m cs:=h
   unfold Av at h
   split at h
   ·have hl:=hc.len
    match us,hl with
    | [u],_ =>
     obtain⟨⟨e,_⟩,_⟩:=hc
     exact⟨[],⟨by rw[e,h]; rfl,rfl⟩,fun y hy=>by cases hy⟩
   ·rename_i k ver
    obtain⟨rfl,rfl,h⟩:=h
    split at h
    ·rename_i xo v g hk
     have hl:=hc.len
     match us,hl with
     | [u],_ =>
      obtain⟨⟨_,B,hB,hbh⟩,_⟩:=hc
      rw[hk] at hB; injection hB with hB; subst hB
      have h1:=hb _ hk
      have e:=hbh.2 h
      obtain⟨b0,o,_,_,_,⟨m,em⟩,_⟩:=hs.mm _ _ hk
      simp only[em] at h1
      injection h1 with h1
      refine⟨[],⟨?_,rfl⟩,fun y hy=>by cases hy⟩
      rw[e,em,h1]; rfl
    ·exact h.elim
   ·exact h.elim
  | _=>intro x cs us hc h; exact leaf hc h
 | ext e t _ =>
  cases e with
  | sS =>
   intro x cs us hc h
   cases x with
   | none=>exact leaf hc h
   | some y =>
    have h:cs.length=1:=h
    have hl:=hc.len
    match cs,us,hl,h,hc with
    | [v],[u],_,_,hc=>exact⟨[],⟨u,rfl,hc.1.one,rfl⟩,fun y hy=>by cases hy⟩
  | _=>intro x cs us hc h; exact leaf hc h
 | _=>intro x cs us hc h; exact leaf hc h
theorem IB {lm:Nat->Option ay} {kc b:Nat} {e:Ex} {t:Ty} {x:Option t.den} {cs:List AV} (h:AG lm kc b (.ext e t) x cs):jt lm kc b (.ext e t) x cs\/∃y k,e=.ref/\x=some y/\cs=[.ptr k 0]/\k ≠ kc/\(match lm k with|some (.bx _ cs)=>jt lm kc b t y cs|_=>False):=by
 cases e with
 | ref =>
  cases x with
  | none=>exact .inl h
  | some y =>
   match cs,h with
   | [],h=>exact .inl h
   | [v],h =>
    cases v with
    | ptr k off =>
     cases off with
     | zero=>exact .inr ⟨y,k,rfl,rfl,rfl,h⟩
     | succ n=>exact .inl h
    | _=>exact .inl h
   | v :: _ :: _,h =>
    cases v with
    | ptr k off=>cases off<;>exact .inl h
    | _=>exact .inl h
 | ie f=>exact .inl h
 | sS=>exact .inl h
theorem Vx {σ:St} {Γ:aC} {a:Act} {w:World} (hs:aH c σ Γ a w) {kc b:Nat} (hb:su σ Γ kc b):∀{t:Ty} {x:t.den} {cs:List AV} {us:List Value},aA (aQ c σ.mem Γ w) cs us->AG (look σ.mem) kc b t x cs->∃fp,t.rp.rep w us x fp/\∀y ∈ fp,Sb c σ Γ kc y:=by
 have leaf:∀{t:Ty} {x:t.den} {cs:List AV} {us:List Value},aA (aQ c σ.mem Γ w) cs us->jt (look σ.mem) kc b t x cs->∃fp,t.rp.rep w us x fp/\∀y ∈ fp,Sb c σ Γ kc y:=fun hc h=>by
  obtain⟨fp,h1,h2⟩:=A9 hs hb hc h
  exact⟨fp,h1,fun y hy=>.inl (h2 y hy)⟩
 intro t
 induction t with
 | prod A B ihA ihB =>
  intro x cs us hc ⟨h1,h2⟩
  obtain⟨f1,r1,g1⟩:=ihA (hc.take _) h1
  obtain⟨f2,r2,g2⟩:=ihB (hc.drop _) h2
  exact⟨f1++f2,⟨_,_,f1,f2,(take_append_drop _ _).symm,rfl,r1,r2⟩,fun y hy=>(mem_append.1 hy).elim (g1 y) (g2 y)⟩
 | ext e t _ =>
  intro x cs us hc h
  rcases IB h with h|⟨y,k,rfl,rfl,rfl,hne,h⟩
  ·exact leaf hc h
  ·skip
   split at h
   ·rename_i xo cs' hk
    match us,hc with
    | [u],⟨hp,_⟩ =>
     obtain⟨x',cs2,hq,rfl⟩:=hp
     rw[hk] at hq; injection hq with hq; injection hq with h1 h2; subst h1 h2
     obtain⟨_,us2,e2,hg,hc2⟩:=hs.mm k _ hk
     obtain⟨fp,hr,hfp⟩:=A9 hs hb hc2 h
     refine⟨Γ.loc k xo :: fp,⟨Γ.loc k xo,0,us2.toList,fp,rfl,rfl,hr,fun j v hj=>?_⟩,fun y hy=>?_⟩
     ·rw[zero_add,cell_of_row w _ j us2 e2 (0,0) hg,<-getElem?_toList]; exact hj
     ·rcases mem_cons.1 hy with rfl|hy
      ·exact .inr ⟨k,_,hne,hk,rfl⟩
      ·exact .inl (hfp y hy)
   ·exact h.elim
 | _=>intro x cs us hc h; exact leaf hc h
theorem Ju {σ:St} {Γ:aC} {a:Act} {w:World} (hs:aH c σ Γ a w) {kc b:Nat} (hb:su σ Γ kc b) {k:Nat} {u:Value} {t:Ty} {x:t.den} (hp:AZ σ.mem Γ k u) (h:xX (look σ.mem) kc b k t x):∃fp,t.rp.rep w [u] x fp/\(t.isAgg=false)/\∀y ∈ fp,Sb c σ Γ kc y:=by
 unfold xX at h
 split at h
 ·rename_i t x
  obtain⟨hne,h⟩:=h
  split at h
  ·rename_i xo cs hk
   obtain⟨x',cs',hq,rfl⟩:=hp
   rw[hk] at hq; injection hq with hq; injection hq with h1 h2; subst h1 h2
   obtain⟨_,us,e,hg,hc⟩:=hs.mm k _ hk
   obtain⟨fp,hr,hfp⟩:=Vx hs hb hc h
   refine⟨Γ.loc k xo :: fp,⟨Γ.loc k xo,0,us.toList,fp,rfl,rfl,hr,fun j v hj=>?_⟩,rfl,fun y hy=>?_⟩
   ·rw[zero_add,cell_of_row w _ j us e (0,0) hg,<-getElem?_toList]; exact hj
   ·rcases mem_cons.1 hy with rfl|hy
    ·exact .inr ⟨k,_,hne,hk,rfl⟩
    ·exact hfp y hy
  ·exact h.elim
 ·rename_i p x0
  obtain⟨rfl,rfl,h⟩:=h
  split at h
  ·rename_i xo cs hk
   obtain⟨x',cs',hq,rfl⟩:=hp
   rw[hk] at hq; injection hq with hq; injection hq with h1 h2; subst h1 h2
   have h1:Γ.loc k xo=p:=hb _ hk
   exact⟨[],⟨by rw[h1]; rfl,rfl⟩,rfl,fun y hy=>by cases hy⟩
  ·exact h.elim
 ·exact h.elim
theorem TZ {σ:St} {Γ:aC} {a:Act} {w:World} (hs:aH c σ Γ a w) {kc b:Nat} (hb:su σ Γ kc b):∀{A:Ty} {x:A.den} {ks:List Nat} {us:List Value},aA (AZ σ.mem Γ) ks us->Ei (look σ.mem) kc b A x ks->∃fp,A.rp.rep w us x fp/\∀y ∈ fp,Sb c σ Γ kc y:=by
 intro A
 induction A with
 | prod A B ihA ihB =>
  intro x ks us hc ⟨h1,h2⟩
  obtain⟨f1,r1,g1⟩:=ihA (hc.take _) h1
  obtain⟨f2,r2,g2⟩:=ihB (hc.drop _) h2
  exact⟨f1++f2,⟨_,_,f1,f2,(take_append_drop _ _).symm,rfl,r1,r2⟩,fun y hy=>(mem_append.1 hy).elim (g1 y) (g2 y)⟩
 | _ =>
  intro x ks us hc h
  match ks,us,hc with
  | [k],[u],⟨hp,_⟩ =>
   obtain⟨fp,h1,_,h3⟩:=Ju hs hb hp h
   exact⟨fp,h1,h3⟩
  | [],_,_=>exact h.elim
  | _ :: _ :: _,_,_=>exact h.elim
theorem Zb {σ:St} {Γ:aC} {a:Act} {w:World} (hs:aH c σ Γ a w) {kc b:Nat} (hb:su σ Γ kc b) {v:AV} {u:Value} {d:aL} (hv:bq c σ.mem Γ w v u) (h:zH (look σ.mem) kc b d v):∃fp,bV w u d fp/\∀y ∈ fp,Sb c σ Γ kc y:=by
 have leaf:dw (nW (look σ.mem)) d v->∃fp,bV w u d fp/\∀y ∈ fp,Sb c σ Γ kc y:=by
  intro hi
  have key:dw (look σ.mem) d v/\∀k ∈ v.rows,∀e t v o l,look σ.mem k ≠ some (.row e t v o l):=by
   cases v with
   | agg cs =>
    obtain⟨i1,g1⟩:=nJ hi.2
    refine⟨⟨hi.1,i1⟩,fun k hk=>?_⟩
    obtain⟨cv,hcv,hkv⟩:=mem_flatMap.1 hk
    cases cv<;>simp at hkv
    subst hkv
    exact g1 _ _ hcv
   | row k ver =>
    obtain⟨i1,g1⟩:=nJ hi.2
    exact⟨⟨hi.1,i1⟩,fun k' hk=>by
     rw[mem_singleton.1 hk]
     exact g1 k ver mem_cons_self⟩
   | _=>exact⟨⟨hi.1,(nJ hi.2).1⟩,fun k hk=>by cases hk⟩
  obtain⟨fp,h1,_,h3⟩:=hs.jN hv key.1
  exact⟨fp,h1,fun y hy=>.inl (h3 key.2 y hy)⟩
 obtain⟨t,x⟩:=d
 unfold zH at h
 split at h
 ·rename_i k
  obtain⟨xo,cs,hk,rfl⟩:=hv
  obtain⟨fp,h1,h2,h3⟩:=Ju hs hb ⟨xo,cs,hk,rfl⟩ h
  exact⟨fp,⟨_,.inr ⟨h2,rfl⟩,h1⟩,h3⟩
 ·rename_i f ks
  obtain⟨us,rfl,hp⟩:=hv
  have h5:Hw (look σ.mem) kc b t x f ks:=h
  clear h
  unfold Hw at h5
  split at h5
  ·obtain⟨rfl,h6⟩:=h5
   obtain⟨fp,h1,h2⟩:=TZ hs hb hp h6
   exact⟨fp,⟨_,.inr ⟨rfl,rfl⟩,us,rfl,h1⟩,h2⟩
  ·exact h5.elim
 ·obtain⟨us,rfl,hc⟩:=hv
  obtain⟨fp,h1,h2⟩:=A9 hs hb hc h.2
  exact⟨fp,⟨us,.inl ⟨h.1,rfl⟩,h1⟩,fun y hy=>.inl (h2 y hy)⟩
 ·exact leaf h
theorem vQ {lm':Nat->Option ay} {kc b:Nat} (hk:lm' kc=lm kc):∀{t:Ty} {x:t.den} {cs:List AV},(∀k ∈ bc cs,lm' k=lm k)->jt lm kc b t x cs->jt lm' kc b t x cs:=by
 have hq:∀{k:Nat},lm' k=lm k->nW lm' k=nW lm k:=fun {k} h=>by unfold nW; rw[h]
 intro t
 induction t with
 | prod A B ihA ihB =>
  intro x cs hc ⟨h1,h2⟩
  exact⟨ihA (fun k hk=>hc k (by obtain⟨v,hv,hkv⟩:=mem_flatMap.1 hk; exact mem_flatMap.2 ⟨v,mem_of_mem_take hv,hkv⟩)) h1,ihB (fun k hk=>hc k (by obtain⟨v,hv,hkv⟩:=mem_flatMap.1 hk; exact mem_flatMap.2 ⟨v,mem_of_mem_drop hv,hkv⟩)) h2⟩
 | dr f =>
  cases f with
  | mp m =>
   intro x cs hc h
   have h:Av lm kc b m cs:=h
   show Av lm' kc b m cs
   unfold Av at h ⊢
   rw[hk]; exact h
  | _=>intro x cs hc h; exact iw (fun k hk=>hq (hc k hk)) h
 | ext e t _ =>
  cases e with
  | sS =>
   intro x cs hc h
   cases x with
   | none=>exact iw (fun k hk=>hq (hc k hk)) h
   | some y=>exact h
  | _=>intro x cs hc h; exact iw (fun k hk=>hq (hc k hk)) h
 | _=>intro x cs hc h; exact iw (fun k hk=>hq (hc k hk)) h
theorem Pg {lm':Nat->Option ay} {kc b:Nat} (hk:lm' kc=lm kc):∀{t:Ty} {x:t.den} {cs:List AV},(∀k ∈ bc cs++cs.flatMap (ku lm),lm' k=lm k)->AG lm kc b t x cs->AG lm' kc b t x cs:=by
 have leaf:∀{t:Ty} {x:t.den} {cs:List AV},(∀k ∈ bc cs++cs.flatMap (ku lm),lm' k=lm k)->jt lm kc b t x cs->jt lm' kc b t x cs:=fun hc h=>vQ hk (fun k h=>hc k (mem_append.2 (.inl h))) h
 have tk:∀{cs cs':List AV},(∀v ∈ cs',v ∈ cs)->(∀k ∈ bc cs++cs.flatMap (ku lm),lm' k=lm k)->∀k ∈ bc cs'++cs'.flatMap (ku lm),lm' k=lm k:=fun hs hc k h=>by
  rcases mem_append.1 h with h|h
  ·obtain⟨v,hv,hkv⟩:=mem_flatMap.1 h
   exact hc k (mem_append.2 (.inl (mem_flatMap.2 ⟨v,hs v hv,hkv⟩)))
  ·obtain⟨v,hv,hkv⟩:=mem_flatMap.1 h
   exact hc k (mem_append.2 (.inr (mem_flatMap.2 ⟨v,hs v hv,hkv⟩)))
 intro t
 induction t with
 | prod A B ihA ihB =>
  intro x cs hc ⟨h1,h2⟩
  exact⟨ihA (tk (fun v hv=>mem_of_mem_take hv) hc) h1,ihB (tk (fun v hv=>mem_of_mem_drop hv) hc) h2⟩
 | ext e t _ =>
  intro x cs hc h
  rcases IB h with h|⟨y,k,rfl,rfl,rfl,h1,h2⟩
  ·have h3:=leaf hc h
   cases e with
   | ref =>
    cases x with
    | none=>exact h3
    | some y =>
     match cs,h3,h,hc with
     | [],h3,_,_=>exact h3
     | [v],h3,h,_ =>
      cases v with
      | ptr k off =>
       cases off with
       | zero=>exact absurd h (by simp[jt,Is,zZ])
       | succ n=>exact h3
      | _=>exact h3
     | v :: _ :: _,h3,_,_ =>
      cases v with
      | ptr k off=>cases off<;>exact h3
      | _=>exact h3
   | ie f=>exact h3
   | sS=>exact h3
  ·refine⟨h1,?_⟩
   split at h2
   ·rename_i xo cs' hkb
    have hkk:lm' k=lm k:=hc k (by simp[ku,jV,hkb])
    rw[hkk,hkb]
    exact vQ hk (fun j hj=>hc j (by simp[ku,jV,hkb,hj])) h2
   ·exact h2.elim
 | _=>intro x cs hc h; exact leaf hc h
theorem Ci {lm':Nat->Option ay} {kc b k:Nat} (hk:lm' kc=lm kc) (hr:∀j ∈ dI lm k,lm' j=lm j) {t:Ty} {x:t.den} (h:xX lm kc b k t x):xX lm' kc b k t x:=by
 unfold xX at h ⊢
 split at h
 ·obtain⟨h1,h2⟩:=h
  refine⟨h1,?_⟩
  have hkk:lm' k=lm k:=hr k (by unfold dI; split<;>simp)
  rw[hkk]
  split at h2
  ·rename_i xo cs hb
   exact Pg hk (fun j hj=>hr j (by unfold dI; rw[hb]; exact mem_cons_of_mem _ hj)) h2
  ·exact h2.elim
 ·unfold TR at h ⊢; rw[hk]; exact h
 ·exact h.elim
theorem On {lm':Nat->Option ay} {kc b:Nat} (hk:lm' kc=lm kc):∀{A:Ty} {x:A.den} {ks:List Nat},(∀k ∈ ks,∀j ∈ dI lm k,lm' j=lm j)->Ei lm kc b A x ks->Ei lm' kc b A x ks:=by
 intro A
 induction A with
 | prod A B ihA ihB =>
  intro x ks hr ⟨h1,h2⟩
  exact⟨ihA (fun k h=>hr k (mem_of_mem_take h)) h1,ihB (fun k h=>hr k (mem_of_mem_drop h)) h2⟩
 | _ =>
  intro x ks hr h
  match ks,h with
  | [k],h=>exact Ci hk (hr k mem_cons_self) h
theorem Qn {lm':Nat->Option ay} {kc b:Nat} (hk:lm' kc=lm kc) {v:AV} {d:aL} (hr:∀j ∈ CP lm v,lm' j=lm j) (h:zH lm kc b d v):zH lm' kc b d v:=by
 unfold zH at h ⊢
 split at h
 ·exact Ci hk hr h
 ·rename_i f ks
  unfold Hw at h ⊢
  split at h
  ·exact⟨h.1,On hk (fun k hk j hj=>hr j (mem_flatMap.2 ⟨k,hk,hj⟩)) h.2⟩
  ·exact h.elim
 ·exact⟨h.1,vQ hk (fun k hk=>hr k hk) h.2⟩
 ·rename_i h1 h2 h3
  refine cV (fun k hk=>?_) h
  unfold nW
  rw[hr k ?_]
  unfold CP
  split
  ·rename_i k0; exact absurd rfl (h1 k0)
  ·rename_i f ks; exact absurd rfl (h2 f ks)
  ·exact hk
theorem F3 {w:World} {a:Act} {M:Mm} {Γ:aC} {R:aL->AV->Prop} {S:Nat->Prop}:∀{vs:List AV} {xs:List Operand} {args:List aL},aA (fun v x=>bq c M Γ w v (a.eval x)) vs xs->aA (fun v d=>R d v) vs args →
  (∀v d u,v ∈ vs->bq c M Γ w v u->R d v->∃fp,bV w u d fp/\∀b ∈ fp,S b)->aA (fun v d=>∃fp,bV w v d fp/\∀b ∈ fp,S b) (xs.map a.eval) args
 | [],[],[],_,_,_=>trivial
 | v :: vs,x :: xs,d :: args,⟨h1,h2⟩,⟨h3,h4⟩,hf=>⟨hf v d _ mem_cons_self h1 h3,F3 h2 h4 fun v d u hv=>hf v d u (mem_cons_of_mem _ hv)⟩
 | [],_ :: _,_,h,_,_=>h.elim
 | [],[],_ :: _,_,h,_=>h.elim
 | _ :: _,[],_,h,_,_=>h.elim
 | _ :: _,_ :: _,[],_,h,_=>h.elim
theorem Rm {M:Mm} {Γ:aC} {w:World} {n:Nat} {S:Nat->Prop} {res:List aL} {v:Value} (hf:(res.all fun d=>d.1.flat)=true) (h:pb false n S w v res):aR c M Γ w (v7 res) v:=by
 have key:∀{us:List Value} {ds:List aL},(ds.all fun d=>d.1.flat)=true->aA (oy false n S w) us ds->aA (bq c M Γ w) (ds.map fun d=>av d.1 d.2) us:=by
  intro us ds
  induction ds generalizing us with
  | nil=>intro _ h; match us,h with|[],_=>trivial
  | cons d ds ih =>
   intro hf h
   match us,h with
   | u :: us,⟨⟨fp,h1,_⟩,h2⟩ =>
    rw[all_cons,Bool.and_eq_true] at hf
    refine⟨jn h1 fun b hb=>?_,ih hf.2 h2⟩
    obtain⟨cs,_,hr⟩:=h1
    rw[fL hf.1 hr] at hb; cases hb
 match res,h with
 | [d],⟨fp,h1,_⟩ =>
  rw[all_cons,Bool.and_eq_true] at hf
  refine b8 (jn h1 fun b hb=>?_)
  obtain⟨cs,_,hr⟩:=h1
  rw[fL hf.1 hr] at hb; cases hb
 | [],h=>obtain⟨us,e,h⟩:=h; exact⟨us,e,key hf h⟩
 | d :: d' :: ds,h=>obtain⟨us,e,h⟩:=h; exact⟨us,e,key hf h⟩
theorem Sd {fop:Operand} {xs:Array Operand} {tys:Array TypeId} (ho:o.op=.call { callee:=.value fop,args:=xs,argTypes:=tys }) {f:FuncId} {vs:List AV} (hf:ev lt fop=some (.sc (.func (.func f) #[] #[]))) (hvs:ia lt xs.toList=some vs) (hok:vs.all AV.ok=true)
  (h:V6 P lm K f vs):∃e,K e/\aT P c lt lm nx o e:=by
 obtain⟨args,res,kc,hfn,hfl,hargs,hK⟩:=h
 refine⟨_,hK,?_⟩
 clear hK
 have hrows:∀v ∈ vs,∀k ∈ CP lm v,k ∈ kc :: vs.flatMap (CP lm):=fun v hv k hk=>mem_cons_of_mem _ (mem_flatMap.2 ⟨v,hv,hk⟩)
 refine⟨fun p hp=>(by cases hp),fun σ Γ a w hs hl hm hn hd K Q hK=>?_⟩
 obtain⟨hr,hv⟩:=dR ho hf hvs hok (hfn 0).1 σ Γ a w hs hl
 unfold Oper.wp
 rw[hr,Oper.upon_enter]
 have hma:xs.map a.eval=(xs.toList.map a.eval).toArray:=toList_inj.1 (by rw[toList_map])
 rw[hma]
 obtain⟨b,hb1,hb2⟩:=X4 hs (hm kc mem_cons_self)
 have hda:=F3 (S:=fun _=>True) hv (hargs b hb2) (fun v d u hvm hvr hi=>by
  obtain⟨fp,h1,_⟩:=Zb hs hb1 hvr (Qn (hm kc mem_cons_self) (fun j hj=>hm j (hrows v hvm j hj)) hi)
  exact⟨fp,h1,fun _ _=>trivial⟩)
 refine ((hfn b).2 w _ _ (jj hs) hda).mono ?_
 rintro e w' ⟨hb,u,rfl,hres⟩
 refine hK Γ _ _ ?_
 have:=(hs.frame hb).put (d:=o.dst) (Rm hfl hres) (fun x hx=>hd x hx)
 unfold St.app
 cases hdst:o.dst<;>simp only[hdst,St.put,nil_append] at this ⊢<;>exact this
theorem S6 {fop:Operand} {xs:Array Operand} {tys:Array TypeId} (ho:o.op=.call { callee:=.value fop,args:=xs,argTypes:=tys }) {f:FuncId} {vs:List AV} (hf:ev lt fop=some (.sc (.func (.func f) #[] #[]))) (hvs:ia lt xs.toList=some vs) (hok:vs.all AV.ok=true)
  (h:W5 P lm K f vs):∃e,K e/\aT P c lt lm nx o e:=h.1.elim
theorem FW {fop:Operand} {xs:Array Operand} {tys:Array TypeId} (ho:o.op=.call { callee:=.value fop,args:=xs,argTypes:=tys }) {f:FuncId} {vs:List AV} (hf:ev lt fop=some (.sc (.func (.func f) #[] #[]))) (hvs:ia lt xs.toList=some vs) (hok:vs.all AV.ok=true)
  (h:OD P lm K f vs):∃e,K e/\aT P c lt lm nx o e:=h.1.elim
theorem aH.aaq {σ:St} {Γ:aC} {a:Act} {w w':World} (h:aH c σ Γ a w) (hb:Below w.heap.size w w') {k:Nat} (hk:look σ.mem k=none) {b:Nat} (hm:w.heap.size<=b) {us:Array Value} {e:TypeId} (hg:w'.heap[b]? = some (.cells us e (0,0))) {cs:List AV}
  (hc:(∀v u,aQ c σ.mem Γ w v u->aQ c ((k,.box cs) :: σ.mem) (Γ.iZ k b) w' v u)->aA (aQ c ((k,.box cs) :: σ.mem) (Γ.iZ k b) w') cs us.toList):aH c ⟨σ.tmps,(k,.box cs) :: σ.mem⟩ (Γ.iZ k b) a w':=by
 refine h.yf ⟨aC.D2 _ k _,hb.os,hb.tape,hb.output,hb.size,fun i hi _=>hb.block i hi,fun b' hb'=>.inl ?_,fun b' hb'=>by simp[ay.bY] at hb'⟩ ?_ ?_ ?_ ?_
 ·have:b'=(Γ.iZ k b).β k:=hb'
  rw[aC.iJ] at this; omega
 ·rintro ver u ⟨_,B,hB,_⟩; rw[hk] at hB; cases hB
 ·rintro ver i off u ⟨_,B,hB,_⟩; rw[hk] at hB; cases hB
 ·intro x cs hB; rw[hk] at hB; cases hB
 ·intro hcr
  exact⟨(by show c.base<=(Γ.iZ k b).β k; rw[aC.iJ]; exact le_trans h.hb hm),us,e,(by show w'.heap[(Γ.iZ k b).β k]? = _; rw[aC.iJ]; exact hg),hc hcr⟩
theorem Ov (hnx:∀k,nx<=k->lm k=none) {fop:Operand} {xs:Array Operand} {tys:Array TypeId} (ho:o.op=.call { callee:=.value fop,args:=xs,argTypes:=tys }) {f:FuncId} {vs:List AV} (hf:ev lt fop=some (.sc (.func (.func f) #[] #[]))) (hvs:ia lt xs.toList=some vs) (hok:vs.all AV.ok=true)
  (h:Rb P lm nx K f vs):∃e,K e/\aT P c lt lm nx o e:=h.1.elim
theorem SB {σ:St} {Γ:aC} {a:Act} {w:World} {M:Mm} {n:Nat} (hs:aH c σ Γ a w) (hM:jJ (look σ.mem) (M.map (·.1)) M):CG P (tX c σ Γ w M n):=by
 have hcg:Nonempty (CG P c):=inferInstance
 obtain⟨hcg⟩:=hcg
 have hn:∀g,P.globalNamed gH=some g->g < w.heap.size/\¬ iB M Γ g:=fun g hg=>by
  obtain⟨h1,h2⟩:=hcg.ne g hg
  refine⟨Nat.lt_of_lt_of_le h1 hs.hb,fun hm=>?_⟩
  obtain⟨k,B0,_,q2,q3,_⟩:=OO hs hM hm
  rcases (hs.eE q2 q3).1 with h3|h3
  ·omega
  ·exact h2 h3
 exact⟨fun w' hb=>(hcg.g w hs.below).Mk hb hn,hn⟩
theorem Ge {f:FuncId} {vs:List AV} (hf:∀(σ:St) (Γ:aC) (a:Act) (w:World),aH c σ Γ a w->(∀t ∈ kG o,look σ.tmps t=lt t)->∃us:List Value,(execOp a.eval o).run P w=.ok (.enter f us.toArray) w/\aA (fun v u=>bq c σ.mem Γ w v u) vs us)
  (h:jw P lm K f vs):∃e,K e/\aT P c lt lm nx o e:=by
 obtain⟨vs0,M,M',v,hfn,hokM,hargs,hEs,hK⟩:=h
 have hdis:∀k ∈ kC (M.map (·.1)) (vs.flatMap AV.rows),k ∉ M.map (·.1):=fun k hk=>(sC.1 hk).2
 have hrows:∀v ∈ vs,∀k ∈ v.rows,k ∉ M.map (·.1)->k ∈ kC (M.map (·.1)) (vs.flatMap AV.rows):=fun v hv k hk hn=>sC.2 ⟨mem_flatMap.2 ⟨v,hv,hk⟩,hn⟩
 generalize kC (M.map (·.1)) (vs.flatMap AV.rows)=R at *
 refine⟨_,hK,fun p hp=>?_,fun σ Γ a w hs hl hm hn hd K Q hK=>?_⟩
 ·rcases mem_append.1 hp with hp|hp
  ·exact .inr (mem_append.2 (.inl (by rw[<-Ix hokM]; exact mem_map.2 ⟨p,hp,rfl⟩)))
  ·exact .inr (mem_append.2 (.inr (fj hp)))
 ·have hm1:∀k ∈ M.map (·.1),look σ.mem k=lm k:=fun k hk=>hm k (mem_append.2 (.inl hk))
  have hm2:∀k ∈ R,look σ.mem k=lm k:=fun k hk=>hm k (mem_append.2 (.inr hk))
  have hcongr:aJ (look σ.mem) R=aJ lm R:=gN fun k hk=>hm2 k hk
  have hf':=hs.tR (ks:=R)
  rw[hcongr] at hf'
  have hEs':jJ (look (aJ lm R++σ.mem)) (M.map (·.1)) M:=De (fun k hk=>by
   rw[a8]
   cases hq:look (aJ lm R) k with
   | none=>exact hm1 k hk
   | some B =>
    obtain⟨q,hq1,hq2⟩:=fM hq
    have:=fj hq1
    rw[hq2] at this
    exact absurd hk (hdis k this)) hEs
  obtain⟨us,hrun,hus⟩:=hf _ Γ a w hf' hl
  have hno:∀v ∈ vs,∀k ∈ v.rows,k ∉ M.map (·.1)->∀e t v' o l,look (aJ lm R++σ.mem) k ≠ some (.row e t v' o l):=fun v hv k hk hn e t v' o l hrow=>by
   rw[<-hcongr] at hrow
   exact (pA hrow).1 (hrows v hv k hk hn)
  have hdat:∀v ∈ vs,∀k ∈ v.rows,look (aJ lm R++σ.mem) k=lB lm R false k:=fun v hv k hk=>by
   rw[a8]
   by_cases hn:k ∈ M.map (·.1)
   ·rw[hm1 k hn]; rfl
   ·rw[hm2 k (hrows v hv k hk hn)]; rfl
  have hpc:∀{u v':AV},(∀k ver,u=.row k ver->look (aJ lm R++σ.mem) k=lB lm R false k)->wh (lB lm R false) (M.map (·.1)) u v'->wh (look (aJ lm R++σ.mem)) (M.map (·.1)) u v':=by
   intro u v' hk h
   cases v' with
   | sl t l =>
    rcases h with ⟨h1,h2⟩|h
    ·exact .inl ⟨(nD fun k ver e=>hk k ver e).trans h1,h2⟩
    ·exact .inr h
   | _=>exact h
  have hpa:∀{u v':AV},u ∈ vs->AQ (lB lm R false) (M.map (·.1)) u v'->AQ (look (aJ lm R++σ.mem)) (M.map (·.1)) u v':=by
   intro u v' hu h
   have one:∀{v':AV},wh (lB lm R false) (M.map (·.1)) u v'->wh (look (aJ lm R++σ.mem)) (M.map (·.1)) u v':=fun h=>hpc (fun k ver e=>hdat _ hu k (by rw[e]; simp[AV.rows])) h
   cases v' with
   | agg cs =>
    cases u with
    | agg cs0 =>
     have h:aA (wh (lB lm R false) (M.map (·.1))) cs0 cs:=h
     have h2:aA (wh (look (aJ lm R++σ.mem)) (M.map (·.1))) cs0 cs:=h.mono fun x y hx hxy=>hpc (fun k ver e=>hdat _ hu k (mem_flatMap.2 ⟨x,hx,by rw[e]; simp⟩)) hxy
     exact h2
    | _=>exact h.elim
   | sc y=>exact one (v':=.sc y) h
   | sl t l=>exact one (v':=.sl t l) h
   | row k ver=>exact one (v':=.row k ver) h
   | ptr k off=>exact one (v':=.ptr k off) h
   | _=>exact h.elim
  have hargs':aA (fun u v'=>(∀k ∈ u.rows,k ∉ M.map (·.1)->∀e t v o l,look (aJ lm R++σ.mem) k ≠ some (.row e t v o l))/\AQ (look (aJ lm R++σ.mem)) (M.map (·.1)) u v') vs vs0 :=
   hargs.mono fun u v' hu h=>⟨fun k hk=>hno u hu k hk,hpa hu h⟩
  unfold Oper.wp
  rw[hrun,Oper.upon_enter]
  refine (hfn.2.2 (tX c ⟨σ.tmps,aJ lm R++σ.mem⟩ Γ w M a.tmps.size) Γ a w us (SB hf' hEs') rfl rfl (hf'.toA hEs' a hs.defs)
   (vG (R:=fun u x=>bq c (aJ lm R++σ.mem) Γ w u x) (fun u v' x hu hq=>VB hf' hEs' hq.1 hq.2 hu) hus hargs')).mono ?_
  rintro e w' ⟨u,Γ',a',n,rfl,hs',hvr⟩
  obtain⟨Δ,hfin⟩:=hf'.abK hEs' hokM (n:=n) hs'
  refine hK Δ _ _ ?_
  have hvr':aR c (M'++(aJ lm R++σ.mem)) Δ w' v u:=by
   rcases hfn.2.1 with rfl|⟨x,rfl⟩
   ·obtain⟨us,e,h⟩:=hvr
    exact⟨us,e,by cases us with|nil=>trivial|cons=>exact h.elim⟩
   ·exact hvr
  have:=hfin.put (d:=o.dst) hvr' (fun x hx=>hd x hx)
  unfold St.app
  rw[append_assoc]
  cases hdst:o.dst<;>simp only[hdst,St.put] at this ⊢<;>exact this
theorem RY (hnx:∀k,nx<=k->lm k=none) {fop:Operand} {xs:Array Operand} {tys:Array TypeId} (ho:o.op=.call { callee:=.value fop,args:=xs,argTypes:=tys }) {f:FuncId} {vs:List AV} (hf:ev lt fop=some (.sc (.func (.func f) #[] #[]))) (hvs:ia lt xs.toList=some vs) (hok:vs.all AV.ok=true)
  (h:Wh P lm nx K f vs):∃e,K e/\aT P c lt lm nx o e:=by
 obtain⟨args,te,t,l,hfn,hargs,hK⟩:=h
 refine⟨_,hK,?_⟩
 clear hK
 have hrows:∀v ∈ vs,∀j ∈ v.rows,j ∈ vs.flatMap AV.rows:=fun v hv j hj=>mem_flatMap.2 ⟨v,hv,hj⟩
 refine⟨fun p hp=>?_,fun σ Γ a w hs hl hm hn hdd K Q hK=>?_⟩
 ·rcases mem_cons.1 hp with rfl|hp
  ·exact .inl (le_refl _)
  ·exact .inr (fj hp)
 obtain⟨hr,hv⟩:=dR ho hf hvs hok hfn.1 σ Γ a w hs hl
 unfold Oper.wp
 rw[hr,Oper.upon_enter]
 have hma:xs.map a.eval=(xs.toList.map a.eval).toArray:=toList_inj.1 (by rw[toList_map])
 rw[hma]
 have hf':=hs.tR (ks:=vs.flatMap AV.rows)
 have hcongr:aJ (look σ.mem) (vs.flatMap AV.rows)=aJ lm (vs.flatMap AV.rows):=gN fun k hk=>hm k hk
 rw[hcongr] at hf'
 have hvf:=(dR ho hf hvs hok hfn.1 _ Γ a w hf' hl).2
 have hda:=iv (S:=fun b=>Gd c (aJ lm (vs.flatMap AV.rows)++σ.mem) Γ b) hvf hargs (fun v d u hvm hvr hi=>by
  have hi:dw (fun j=>(look (aJ lm (vs.flatMap AV.rows)) j).or (lm j)) d v:=hi
  obtain⟨fp,h1,_,h3⟩:=hf'.jN hvr (cV (fun k hk=>by rw[a8,hm k (hrows v hvm k hk)]) hi)
  refine⟨fp,h1,h3 fun k hk e t v' o' l hrow=>?_⟩
  rw[<-hcongr] at hrow
  exact (pA hrow).1 (hrows v hvm k hk))
 refine (hfn.2 w _ _ (jj hs) hda).mono ?_
 rintro e w' ⟨hb,u,fps,rfl,h1,hg,hne⟩
 have hnone:look (aJ lm (vs.flatMap AV.rows)++σ.mem) nx=none:=by
  rw[fV (vS (by rw[hnx _ (le_refl _)]; rfl))]
  by_cases hin:nx ∈ vs.flatMap AV.rows
  ·rw[hm nx hin]; exact hnx _ (le_refl _)
  ·exact hn (nx,_) mem_cons_self hin
 have hg':bh t.rp c.base w' te u l fps:=by
  obtain⟨xs,⟨g1,g2⟩,g3,g4⟩:=hg
  refine⟨xs,⟨g1,?_⟩,g3,g4⟩
  rcases g2 with g2|⟨g,cap,cur,q1,q2,q3⟩
  ·exact .inl g2
  ·exact .inr ⟨g,cap,cur,q1,le_trans hs.hb q2,q3⟩
 have s1:=hf'.newRow hnone hb hg' (fun b hbo=>(hg.own hbo).1) (fun b hbf=>by
  obtain⟨q1,q2⟩:=hne b hbf
  by_cases hlt:w.heap.size<=b
  ·exact .inl ⟨hlt,q2⟩
  ·exact .inr ⟨J,q1.resolve_right hlt⟩) (o:=false) (fun h=>by cases h)
 refine hK (Γ.fB nx u fps.flatten) _ _ ?_
 have:=s1.put (d:=o.dst) (v:=.row nx 0) (u:=u) ⟨h1,_,aD ..,le_refl _,fun _=>by rw[aC.cI]⟩ (fun x hx=>hdd x hx)
 unfold St.app
 cases hdst:o.dst<;>simp only[hdst,St.put] at this ⊢<;>exact this
theorem U9 (hnx:∀k,nx<=k->lm k=none) {fop:Operand} {xs:Array Operand} {tys:Array TypeId} (ho:o.op=.call { callee:=.value fop,args:=xs,argTypes:=tys }) (h:GK P lt lm nx K fop xs):∃e,K e/\aT P c lt lm nx o e:=by
 unfold GK at h
 split at h
 ·rename_i f fi ca vs hf hvs
  obtain⟨rfl,rfl,hok,h⟩:=h
  rcases h with h|h|h|h|h|h|h|h|h|h|h|h|h|h|h|h|h|h
  ·exact PO hnx ho hf hvs hok h
  ·exact Qo hnx ho hf hvs hok h
  ·exact Ut ho hf hvs hok h
  ·exact S1 ho hf hvs hok h
  ·exact SV hnx ho hf hvs hok h
  ·exact P7 hnx ho hf hvs hok h
  ·exact QF ho hf hvs hok h
  ·exact Q0 hnx ho hf hvs hok h
  ·exact PV hnx ho hf hvs hok h
  ·exact P1 ho hf hvs hok h
  ·exact Sd ho hf hvs hok h
  ·exact S6 ho hf hvs hok h
  ·exact FW ho hf hvs hok h
  ·exact Ov hnx ho hf hvs hok h
  ·exact PC hnx ho hf hvs hok h
  ·have hfr:∀vs w,(callFunc f vs).run P w=.ok (.enter f vs) w:=by obtain⟨_,_,_,_,hfn,_⟩:=h; exact hfn.1
   refine Ge (fun σ Γ a w hs hl=>?_) h
   obtain⟨hr,hv⟩:=dR ho hf hvs hok hfr σ Γ a w hs hl
   exact⟨xs.toList.map a.eval,by rw[hr,show xs.map a.eval=(xs.toList.map a.eval).toArray from toList_inj.1 (by rw[toList_map])],hv.sK a.eval⟩
  ·exact RY hnx ho hf hvs hok h
  ·exact Qe hnx ho hf hvs hok h
 ·exact h.elim
end
theorem Q3 {β:Type} {Q:Nat->β->Prop} (n:Nat) (h:∀i,i < n->∃y,Q i y):∃ys:List β,ys.length=n/\∀i y,ys[i]? = some y->Q i y:=by
 induction n with
 | zero=>exact⟨[],rfl,fun i y h=>by simp at h⟩
 | succ n ih =>
  obtain⟨ys,hl,hy⟩:=ih fun i hi=>h i J
  obtain⟨y,hq⟩:=h n J
  refine⟨ys++[y],by simp[hl],fun i z hz=>?_⟩
  rcases lt_or_ge i ys.length with hi|hi
  ·rw[getElem?_append_left hi] at hz; exact hy i z hz
  ·have hin:i=n:=by have:=(List.getElem?_eq_some_iff.1 hz).1; simp at this; omega
   subst hin
   rw[<-hl] at hz ⊢
   simp at hz
   subst hz
   exact hl ▸ hq
theorem u5 {α:Type} {css:List (List α)} {n:Nat} (h:∀cs ∈ css,cs.length=n):css.flatten.length=css.length * n/\∀i cs j d,css[i]? = some cs->cs[j]? = some d->css.flatten[i * n+j]? = some d:=by
 induction css with
 | nil=>exact⟨by simp,fun i cs j d h=>by simp at h⟩
 | cons c0 css ih =>
  obtain⟨h1,h2⟩:=ih fun cs hc=>h cs (mem_cons_of_mem _ hc)
  have h0:=h c0 mem_cons_self
  refine⟨by simp only[flatten_cons,length_append,h1,h0,length_cons,succ_mul]; omega,fun i cs j d hi hj=>?_⟩
  cases i with
  | zero =>
   simp at hi; subst hi
   have:=(List.getElem?_eq_some_iff.1 hj).1
   simp only[flatten_cons,zero_mul,zero_add]
   rw[getElem?_append_left J]; exact hj
  | succ i =>
   simp at hi
   have:=h2 i cs j d hi hj
   simp only[flatten_cons]
   rw[getElem?_append_right (by rw[succ_mul]; omega),h0,succ_mul]
   rw[show i * n+n+j - n=i * n+j from J]; exact this
theorem FG {α:Type} {css:List (List α)} {n:Nat} (hn:0 < n) (h:∀cs ∈ css,cs.length=n) {q:Nat} {d:α} (hq:css.flatten[q]? = some d):∃cs,css[q / n]? = some cs/\cs[q % n]? = some d:=by
 obtain⟨h1,h2⟩:=u5 h
 have hlt:=(List.getElem?_eq_some_iff.1 hq).1
 rw[h1] at hlt
 have hi:q / n < css.length:=by rw[Nat.div_lt_iff_lt_mul hn]; exact hlt
 have hc:=h css[q / n] (List.getElem_mem hi)
 have hm:=mod_lt q hn
 have h3:=h2 (q / n) css[q / n] (q % n) (css[q / n][q % n]'J) (getElem?_eq_getElem hi) (getElem?_eq_getElem J)
 rw[show q / n * n+q % n=q by rw[mul_comm]; exact Nat.div_add_mod q n,hq] at h3
 injection h3 with h3
 exact⟨_,getElem?_eq_getElem hi,by rw[getElem?_eq_getElem J,h3]⟩
def eZ {α:Type} (A:Rp α) (w:World) (l:List α) (css:List (List Value)) (fps:List (List Nat)):Prop :=
 css.length=l.length/\fps.length=l.length/\∀(i:Nat) (x:α),l[i]? = some x->∃cs f,css[i]? = some cs/\fps[i]? = some f/\A.rep w cs x f
theorem eZ.len {α:Type} {A:Rp α} {w:World} {l:List α} {css:List (List Value)} {fps:List (List Nat)} (h:eZ A w l css fps):∀cs ∈ css,cs.length=A.size:=by
 intro cs hc
 obtain⟨i,hi,rfl⟩:=getElem_of_mem hc
 obtain⟨cs',f,h1,_,h3⟩:=h.2.2 i (l[i]'(by have:=h.1; omega)) (getElem?_eq_getElem (by have:=h.1; omega))
 rw[getElem?_eq_getElem hi] at h1
 injection h1 with h1
 rw[h1]; exact A.len h3
theorem eZ.one {α:Type} {A:Rp α} {w:World} {l:List α} {css:List (List Value)} {fps:List (List Nat)} (h:eZ A w l css fps):∀u ∈ css.flatten,u.oneCell'=true:=by
 intro u hu
 obtain⟨cs,hc,hu⟩:=mem_flatten.1 hu
 obtain⟨i,hi,rfl⟩:=getElem_of_mem hc
 obtain⟨cs',f,h1,_,h3⟩:=h.2.2 i (l[i]'(by have:=h.1; omega)) (getElem?_eq_getElem (by have:=h.1; omega))
 rw[getElem?_eq_getElem hi] at h1
 injection h1 with h1
 rw[h1] at hu
 exact A.one h3 u hu
theorem tv {α:Type} {A:Rp α} {p:0 < A.size} {w:World} {u:Value} {l:List α} {fp:List Nat} (h:(Rp.slice A p).rep w [u] l fp) :
  ∃ad cc css fps,u=.slice ad l.length cc/\eZ A w l css fps/\(∀b ∈ fps.flatten,b ∈ fp)/\(ad=none->l=[])/\(∀a,ad=some a->∀j d,css.flatten[j]? = some d->w.cell? (a.add j)=some d)/\(fps.flatten=[]\/∃b,fp=b :: fps.flatten):=by
 obtain⟨ad,cc,h1,h2,h3,h4⟩:=h
 injection h1 with h1
 rcases h4 with ⟨rfl,rfl⟩|⟨b,off,fps,hl,ha,hfp,hlen,he⟩
 ·exact⟨ad,cc,[],[],h1,⟨rfl,rfl,fun i x hx=>by simp at hx⟩,(fun b hb=>by simp at hb),fun _=>rfl,(fun a _ j d hd=>by simp at hd),.inl rfl⟩
 ·have hex:∀i,i < l.length->∃cs:List Value,∀x,l[i]? = some x->∃f,fps[i]? = some f/\A.rep w cs x f/\∀j v,cs[j]? = some v->w.cell? ⟨b,off+i * A.size+j,none⟩=some v:=by
   intro i hi
   obtain⟨f,cs,h1,h2,h3⟩:=he i l[i] (getElem?_eq_getElem hi)
   refine⟨cs,fun x hx=>?_⟩
   rw[getElem?_eq_getElem hi] at hx
   injection hx with hx
   subst hx
   exact⟨f,h1,h2,h3⟩
  obtain⟨css,hcl,hcs⟩:=Q3 l.length hex
  have hrows:eZ A w l css fps:=by
   refine⟨hcl,hlen,fun i x hx=>?_⟩
   have hi:=(List.getElem?_eq_some_iff.1 hx).1
   have hc:css[i]? = some (css[i]'J):=getElem?_eq_getElem J
   obtain⟨f,h1,h2,_⟩:=hcs i _ hc x hx
   exact⟨_,f,hc,h1,h2⟩
  refine⟨ad,cc,css,fps,h1,hrows,(fun b' hb'=>by rw[hfp]; exact mem_cons_of_mem _ hb'),(fun hn=>by rw[ha] at hn; cases hn),fun a haa j d hd=>?_,.inr ⟨_,hfp⟩⟩
  rw[ha] at haa
  injection haa with haa
  subst haa
  obtain⟨cs,hc,hd⟩:=FG p hrows.len hd
  have hi:j / A.size < l.length:=by have:=(List.getElem?_eq_some_iff.1 hc).1; omega
  obtain⟨f,_,_,h3⟩:=hcs _ cs hc _ (getElem?_eq_getElem hi)
  have:=h3 _ d hd
  rw[ew]
  rw[add_assoc,show j / A.size * A.size+j % A.size=j by rw[mul_comm]; exact Nat.div_add_mod j A.size] at this
  exact this
theorem OU {α:Type} {A:Rp α} {p:0 < A.size} {w:World} {u:Value} {l:List α} {fp:List Nat} (h:(Rp.slice A p).rep w [u] l fp) :
  ∃ad cc css fps,u=.slice ad l.length cc/\eZ A w l css fps/\(∀b ∈ fps.flatten,b ∈ fp)/\(ad=none->l=[])/\∀a,ad=some a->∀j d,css.flatten[j]? = some d->w.cell? (a.add j)=some d:=by
 obtain⟨ad,cc,css,fps,h1,h2,h3,h4,h5,_⟩:=tv h
 exact⟨ad,cc,css,fps,h1,h2,h3,h4,h5⟩
section
variable {P:Program} {α:Type} {A:Rp α}
theorem pt {base:Nat} {w:World} {v u:Value} {l m:List α} {fps fps2:List (List Nat)} {css:List (List Value)} {ad:Option Addr} {cc:Nat} (t ty e:TypeId) (i:TypeInfo) (z:Value) (ht:P.underlying t=some (.slice e)) (hi:P.info? e=some i) (hz:i.zero=some z)
  (hsize:i.size=A.size) (hzs:z.cells.size=A.size) (hsz:0 < A.size) (h:bh A base w e v l fps) (hu:u=.slice ad m.length cc) (hr:eZ A w m css fps2) (hn:ad=none->m=[]) (hc:∀a,ad=some a->∀j d,css.flatten[j]? = some d->w.cell? (a.add j)=some d)
  (h63:l.length+m.length<=maxLen) (hbytes:(l.length+m.length) * i.bytes<=140737488355328) (hbase:base<=w.heap.size) (hf1:∀b ∈ fps.flatten,v.ownBlock ≠ some b) (hf2:∀b ∈ fps2.flatten,v.ownBlock ≠ some b) :
  ∃v' w',(Builtin.append_ #[t,t] ty #[v,u]).run P w=.ok v' w'/\bh A base w' e v' (l++m) (fps++fps2)/\w.grownBy w' v.ownBlock/\(v'.ownBlock=v.ownBlock\/v'.ownBlock=some w.heap.size):=by
 subst hu
 obtain⟨xs,ho,hfl,he⟩:=h
 have hlt1:∀b ∈ fps.flatten,b < w.heap.size:=bh.lt ⟨xs,ho,hfl,he⟩
 cases ad with
 | none =>
  have:=hn rfl
  subst this
  have hf0:fps2=[]:=List.eq_nil_of_length_eq_zero hr.2.1
  subst hf0
  refine⟨v,w,?_,by rw[append_nil,append_nil]; exact⟨xs,ho,hfl,he⟩,World.grownBy.refl w _,.inl rfl⟩
  rcases ho.2 with ⟨rfl,h0⟩|⟨g,cap,cur,rfl,_,_,hnc,_⟩
  ·simp[Builtin.append_,run_underlying ht,sizeOf,typeInfo,hi,Builtin.lenOf,Builtin.firstCells]
  ·simp[Builtin.append_,run_underlying ht,sizeOf,typeInfo,hi,Builtin.lenOf,Builtin.firstCells,hnc,storeCells]
 | some a =>
  have hlens:=hr.len
  obtain⟨g1,g2⟩:=u5 hlens
  obtain⟨v',w',hrun,h2,h3,_,h5⟩:=run_append_own_at (P:=P) w base t ty e i z A.size i.bytes ht hi hz hsize rfl hzs hsz v l.length xs ho a m.length cc css.flatten (by rw[g1,hr.1])
   (fun j d hd=>hc a rfl j d hd) hr.one h63 hbytes hbase
  have hkeep:∀b,b < w.heap.size->v.ownBlock ≠ some b->w'.heap[b]? = w.heap[b]?:=fun b hb hne=>h3.block b hb fun e=>hne e.symm
  refine⟨v',w',hrun,⟨xs++css.flatten,by rw[length_append]; exact h2,by simp[hfl,hr.2.1],fun j x hx=>?_⟩,h3,h5⟩
  have hxl:xs.length=l.length * A.size:=ho.1
  rcases lt_or_ge j l.length with hj|hj
  ·rw[getElem?_append_left hj] at hx
   obtain⟨f,cs,hf,hrr,hcs⟩:=he j x hx
   refine⟨f,cs,by rw[getElem?_append_left J]; exact hf,A.frame hrr fun b hb=>hkeep b (A.lt hrr b hb) (hf1 b (mem_flatten.2 ⟨f,List.mem_of_getElem? hf,hb⟩)),fun q d hd=>?_⟩
   have:=hcs q d hd
   rw[getElem?_append_left (List.getElem?_eq_some_iff.1 this).1]; exact this
  ·rw[getElem?_append_right hj] at hx
   obtain⟨cs,f,hc1,hf,hrr⟩:=hr.2.2 _ x hx
   refine⟨f,cs,by rw[getElem?_append_right J,hfl]; exact hf,A.frame hrr fun b hb=>hkeep b (A.lt hrr b hb) (hf2 b (mem_flatten.2 ⟨f,List.mem_of_getElem? hf,hb⟩)),fun q d hd=>?_⟩
   have:=g2 _ cs q d hc1 hd
   have hge:l.length * A.size<=j * A.size:=mul_le_mul_right _ hj
   rw[getElem?_append_right J,hxl]
   rw[Nat.sub_mul] at this
   rw[show j * A.size+q - l.length * A.size=j * A.size - l.length * A.size+q from J]
   exact this
theorem FD (base:Nat) (w:World) (e:TypeId):bh A base w e (.slice none 0 0) [] [] :=
 ⟨[],World.ownsRow_nil w base e A.size,rfl,fun i x h=>by simp at h⟩
theorem Fj {base:Nat} {w:World} {e:TypeId} {l:List α} {css:List (List Value)} {fps:List (List Nat)} (hb:base<=w.heap.size) (hr:eZ A w l css fps) (hl:l.length<=maxLen) (rest:List Value) (cap:Nat) (hcap:l.length<=cap) (hcm:cap<=maxLen)
  (hrest:l.length * A.size+rest.length=cap * A.size):bh A base (w.alloc (.cells (css.flatten++rest).toArray e)) e (.slice (some ⟨w.heap.size,0,none⟩) l.length cap) l fps:=by
 obtain⟨g1,g2⟩:=u5 hr.len
 have hlen:css.flatten.length=l.length * A.size:=by rw[g1,hr.1]
 refine⟨css.flatten,⟨hlen,.inr ⟨w.heap.size,cap,_,rfl,hb,EF,hcap,hcm,by simp[hlen]; omega,?_⟩⟩,hr.2.1,fun i x hx=>?_⟩
 ·rw[<-hlen,List.take_left']; rfl
 ·obtain⟨cs,f,h1,h2,h3⟩:=hr.2.2 i x hx
  exact⟨f,cs,h2,A.frame h3 fun b hb=>Below.heap_alloc w _ b (A.lt h3 b hb),fun j d hd=>g2 i cs j d h1 hd⟩
end
def gR (lm:Nat->Option ay):AV->Bool
 | .sc _=>true
 | .row k ver =>
  match lm k with
  | some (.row _ _ v o _)=>v == ver && o
  | some (.cU _ _)=>ver == 0
  | _=>false
 | _=>false
def rY (σ:St):AV->Bool:=gR (look σ.mem)
section
variable {P:Program} {c:Cx} {σ:St} {Γ:aC} {a:Act} {w:World}
def Holds (σ:St) (Γ:aC) (k b:Nat):Prop:=∃B,look σ.mem k=some B/\(B.mut Γ k b\/b ∈ B.bY Γ k)
theorem sH (hs:aH c σ Γ a w) {k k' b:Nat} (h:Holds σ Γ k b) (h':Holds σ Γ k' b):k=k':=by
 obtain⟨B,hk,hb⟩:=h
 obtain⟨B',hk',hb'⟩:=h'
 have hgd:∀{k:Nat} {B:ay},look σ.mem k=some B->b ∈ B.bY Γ k->¬ iB σ.mem Γ b:=by
  intro k B hk hb
  have hB:=hs.mm k B hk
  cases B with
  | row e t v o l =>
   obtain⟨fps,_,_,hg,_⟩:=hB
   cases o with
   | false=>simp[ay.bY] at hb
   | true=>exact (hg b hb).2
  | cU t l=>exact (hB.2.1 b hb).2
  | _=>simp[ay.bY] at hb
 rcases hb with hb|hb<;>rcases hb' with hb'|hb'
 ·exact hs.inj _ _ _ _ b hk hk' hb hb'
 ·exact absurd ⟨k,B,hk,hb⟩ (hgd hk' hb')
 ·exact absurd ⟨k',B',hk',hb'⟩ (hgd hk hb)
 ·by_cases hkk:k=k'
  ·exact hkk
  ·exact absurd hb' (hs.pX _ _ _ _ b hk hk' hkk hb)
theorem aH.rE (hs:aH c σ Γ a w):∀{t:Ty} {x:t.den} {cs:List AV} {us:List Value},aA (aQ c σ.mem Γ w) cs us->Is (look σ.mem) t x cs->cs.all (rY σ)=true->(bc cs).Nodup →
  ∃fp,t.rp.rep w us x fp/\gx c w fp/\∀b ∈ fp,∃k ∈ bc cs,Holds σ Γ k b
 | .int,n,_,[u],hc,rfl,_,_=>by obtain⟨⟨rfl,_,hI⟩,_⟩:=hc; exact⟨[],⟨rfl,rfl,hI⟩,cO _ _,fun b hb=>by cases hb⟩
 | .bool,n,_,[u],hc,rfl,_,_=>by obtain⟨⟨rfl,_⟩,_⟩:=hc; exact⟨[],⟨rfl,rfl⟩,cO _ _,fun b hb=>by cases hb⟩
 | .str,n,_,[u],hc,rfl,_,_=>by obtain⟨⟨rfl,_,hI⟩,_⟩:=hc; exact⟨[],⟨rfl,rfl,hI⟩,cO _ _,fun b hb=>by cases hb⟩
 | .u8,n,_,[u],hc,rfl,_,_=>by obtain⟨⟨rfl,_,hI⟩,_⟩:=hc; exact⟨[],⟨rfl,rfl,hI⟩,cO _ _,fun b hb=>by cases hb⟩
 | .dr _,n,_,[u],hc,rfl,_,_=>by obtain⟨⟨rfl,_⟩,_⟩:=hc; exact⟨[],⟨rfl,rfl⟩,cO _ _,fun b hb=>by cases hb⟩
 | .ext e s,x,cs,[u],hc,hi,ho,_=>by
  rcases hi with rfl|⟨rfl,rfl⟩
  ·cases x<;>cases e<;>simp[rY,gR,zZ] at ho
  ·obtain⟨⟨rfl,_⟩,_⟩:=hc
   exact⟨[],⟨rfl,rfl⟩,cO _ _,fun b hb=>by cases hb⟩
 | .slice s,l,cs,[u],hc,hi,ho,hn=>by
  obtain⟨v,e,hs1⟩:=hi
  subst e
  simp only[all_cons,all_nil,Bool.and_true] at ho
  rcases hs1 with hd|⟨rfl,rfl⟩
  ·cases v with
   | row k ver =>
    obtain⟨⟨_,B,hB,hh⟩,_⟩:=hc
    simp only[AV.data,hB,Option.bind_some] at hd
    simp only[rY,gR,hB] at ho
    have hm:=hs.mm k B hB
    cases B with
    | row e s' v' o l' =>
     simp only[Bool.and_eq_true,beq_iff_eq] at ho
     obtain⟨rfl,rfl⟩:=ho
     simp only[ay.data,if_true] at hd
     injection hd with hd; injection hd with d1 d2
     subst d1
     obtain rfl:=eq_of_heq d2
     obtain⟨fps,hg,hf,hgd,hon⟩:=hm
     rw[hh.2 rfl]
     obtain⟨fp,hr,hfp⟩:=sE hg
     refine⟨fp,hr,?_,fun b hb=>⟨k,by simp[bc],_,hB,?_⟩⟩
     ·rcases hfp with rfl|⟨g,hgo,rfl,hbg,hfr⟩
      ·exact cO _ _
      ·have h1:=hon rfl
       rw[hf] at h1
       refine⟨nodup_cons.2 ⟨fun hm=>(hgd g (hf ▸ hm)).2 ⟨k,_,hB,hgo⟩,h1.1⟩,fun b hb=>?_⟩
       rcases mem_cons.1 hb with rfl|hb
       ·exact⟨hbg,hfr⟩
       ·exact h1.2 b hb
     ·rcases hfp with rfl|⟨g,hgo,rfl,_⟩
      ·cases hb
      ·rcases mem_cons.1 hb with rfl|hb
       ·exact .inl hgo
       ·exact .inr (by simp only[ay.bY,hf]; exact hb)
    | cU s' l' =>
     simp only[beq_iff_eq] at ho
     subst ho
     simp only[ay.data,if_true] at hd
     injection hd with hd; injection hd with d1 d2
     subst d1
     obtain rfl:=eq_of_heq d2
     rw[hh rfl]
     exact⟨_,hm.1,hm.2.2,fun b hb=>⟨k,by simp[bc],_,hB,.inr hb⟩⟩
    | _=>cases ho
   | sl _ _=>cases ho
   | fx _ _ _=>cases ho
   | _=>cases hd
  ·obtain⟨⟨rfl,_⟩,_⟩:=hc
   exact⟨[],⟨none,0,rfl,le_refl _,zero_le _,.inl ⟨rfl,rfl⟩⟩,cO _ _,fun b hb=>by cases hb⟩
 | .prod s u,x,cs,us,hc,⟨i1,i2⟩,ho,hn=>by
  have hsplit:bc cs=bc (cs.take s.size)++bc (cs.drop s.size):=by
   rw[bc,bc,bc,<-List.flatMap_append,take_append_drop]
  rw[hsplit,nodup_append] at hn
  rw[all_eq_true] at ho
  obtain⟨f1,r1,o1,g1⟩:=hs.rE (hc.take s.size) i1 (all_eq_true.2 fun v hv=>ho v (mem_of_mem_take hv)) hn.1
  obtain⟨f2,r2,o2,g2⟩:=hs.rE (hc.drop s.size) i2 (all_eq_true.2 fun v hv=>ho v (mem_of_mem_drop hv)) hn.2.1
  refine⟨f1++f2,⟨_,_,f1,f2,(take_append_drop s.size us).symm,rfl,r1,r2⟩,⟨?_,fun b hb=>(mem_append.1 hb).elim (o1.2 b) (o2.2 b)⟩,fun b hb=>?_⟩
  ·rw[nodup_append]
   refine⟨o1.1,o2.1,fun b hb b' hb' e=>?_⟩
   subst e
   obtain⟨k,hk,h1⟩:=g1 b hb
   obtain⟨k',hk',h2⟩:=g2 b hb'
   exact hn.2.2 k hk k' hk' (sH hs h1 h2)
  ·rw[hsplit]
   rcases mem_append.1 hb with hb|hb
   ·obtain⟨k,hk,h1⟩:=g1 b hb; exact⟨k,mem_append.2 (.inl hk),h1⟩
   ·obtain⟨k,hk,h1⟩:=g2 b hb; exact⟨k,mem_append.2 (.inr hk),h1⟩
 | .int,n,_,[],hc,rfl,_,_=>hc.elim
 | .bool,n,_,[],hc,rfl,_,_=>hc.elim
 | .str,n,_,[],hc,rfl,_,_=>hc.elim
 | .u8,n,_,[],hc,rfl,_,_=>hc.elim
 | .dr _,n,_,[],hc,rfl,_,_=>hc.elim
 | .slice s,l,cs,[],hc,hi,_,_=>by obtain⟨v,e,hs⟩:=hi; subst e; exact hc.elim
 | .ext e s,x,cs,[],hc,hi,_,_=>by rcases hi with rfl|⟨rfl,rfl⟩<;>exact hc.elim
 | .int,n,_,_ :: _ :: _,hc,rfl,_,_=>hc.2.elim
 | .bool,n,_,_ :: _ :: _,hc,rfl,_,_=>hc.2.elim
 | .str,n,_,_ :: _ :: _,hc,rfl,_,_=>hc.2.elim
 | .u8,n,_,_ :: _ :: _,hc,rfl,_,_=>hc.2.elim
 | .dr _,n,_,_ :: _ :: _,hc,rfl,_,_=>hc.2.elim
 | .slice s,l,cs,_ :: _ :: _,hc,hi,_,_=>by obtain⟨v,e,hs⟩:=hi; subst e; exact hc.2.elim
 | .ext e s,x,cs,_ :: _ :: _,hc,hi,_,_=>by rcases hi with rfl|⟨rfl,rfl⟩<;>exact hc.2.elim
theorem YR {ks:List Nat}:∀{lm:Nat->Option ay} {j:Nat} {B:ay},look (aJ lm ks) j=some B->∃t v l,B=.jH t v l:=by
 induction ks with
 | nil=>intro lm j B h; cases h
 | cons k ks ih =>
  intro lm j B h
  simp only[aJ] at h
  split at h
  ·rename_i B0 hB0
   rw[a8,or_eq_some_iff] at h
   rcases h with h|⟨_,h⟩
   ·exact ih h
   ·simp only[look] at h
    split at h
    ·injection h with h
     subst h
     obtain⟨B1,_,hf⟩:=Option.bind_eq_some_iff.1 hB0
     cases B1<;>first|(injection hf with hf; exact⟨_,_,_,hf.symm⟩)|cases hf
    ·cases h
  ·exact ih h
theorem Vr {ks:List Nat}:∀{lm:Nat->Option ay} {k:Nat} {B0 B:ay},k ∈ ks->lm k=some B0->B0.fz=some B->∃B',look (aJ lm ks) k=some B':=by
 induction ks with
 | nil=>intro lm k B0 B h; cases h
 | cons k' ks ih =>
  intro lm k B0 B hk hl hz
  simp only[aJ]
  by_cases hkk:k=k'
  ·subst hkk
   have e:(lm k).bind ay.fz=some B:=by rw[hl]; exact hz
   rw[e]
   simp only[a8,aD]
   cases look (aJ (fun j=>if j=k then some B else lm j) ks) k with
   | none=>exact⟨_,rfl⟩
   | some B'=>exact⟨B',rfl⟩
  ·have hk':k ∈ ks:=(mem_cons.1 hk).resolve_left hkk
   split
   ·rename_i B1 hB1
    obtain⟨B',hB'⟩:=ih (lm:=fun j=>if j=k' then some B1 else lm j) hk' (by rw[if_neg hkk]; exact hl) hz
    exact⟨B',by rw[a8,hB']; rfl⟩
   ·exact ih hk' hl hz
def Live (M:Mm) (k:Nat):Prop:=∃B0 B,look M k=some B0/\B0.fz=some B
theorem uV (hs:aH c σ Γ a w) {ks:List Nat} {k b:Nat} (hk:k ∈ ks) (hlv:Live σ.mem k) (hh:Holds σ Γ k b) {j:Nat} {B:ay} (hj:look (aJ (look σ.mem) ks++σ.mem) j=some B):¬ B.mut Γ j b/\b ∉ B.bY Γ j:=by
 have key:¬ (B.mut Γ j b\/b ∈ B.bY Γ j):=by
  intro hb
  rw[a8,or_eq_some_iff] at hj
  rcases hj with hj|⟨hn,hj⟩
  ·obtain⟨t,v,l,rfl⟩:=YR hj
   rcases hb with hb|hb
   ·exact hb.elim
   ·simp[ay.bY] at hb
  ·have e:=sH hs ⟨B,hj,hb⟩ hh
   subst e
   obtain⟨B0,B1,h1,h2⟩:=hlv
   obtain⟨B',hB'⟩:=Vr (lm:=look σ.mem) hk h1 h2
   rw[hn] at hB'
   cases hB'
 exact⟨fun h=>key (.inl h),fun h=>key (.inr h)⟩
theorem xr {k ver:Nat} (h:rY σ (.row k ver)=true):Live σ.mem k:=by
 simp only[rY,gR] at h
 split at h
 ·rename_i hk; exact⟨_,_,hk,rfl⟩
 ·rename_i hk; exact⟨_,_,hk,rfl⟩
 ·cases h
def lK (lm:Nat->Option ay) (vs:List AV):Bool:=vs.all (fun v=>(cellsOf v).all (gR lm)) && decide (vs.flatMap (fun v=>bc (cellsOf v))).Nodup
theorem u7 {lm lm':Nat->Option ay} {v:AV} (h:∀k ver,v=.row k ver->lm' k=lm k):gR lm' v=gR lm v:=by
 cases v with
 | row k ver=>simp only[gR,h k ver rfl]
 | _=>rfl
theorem qI {v:AV} (hok:v.ok=true):bc (cellsOf v)=v.rows:=by
 cases v with
 | ke=>cases hok
 | dY _=>cases hok
 | agg cs=>rfl
 | _=>simp[cellsOf,bc,AV.rows]
theorem Bv {lm lm':Nat->Option ay} {vs:List AV} (hok:vs.all AV.ok=true) (h:∀k ∈ vs.flatMap AV.rows,lm' k=lm k):lK lm' vs=lK lm vs:=by
 unfold lK
 congr 1
 rw[Bool.eq_iff_iff,all_eq_true,all_eq_true]
 have key:∀v ∈ vs,∀cv ∈ cellsOf v,gR lm' cv=gR lm cv:=fun v hv cv hcv=>u7 fun k ver e=>h k (mem_flatMap.2 ⟨v,hv,by
  rw[<-qI (all_eq_true.1 hok v hv)]; exact nw (e ▸ hcv)⟩)
 constructor
 ·intro hh v hv
  rw[all_eq_true]; intro cv hcv
  rw[<-key v hv cv hcv]; exact all_eq_true.1 (hh v hv) cv hcv
 ·intro hh v hv
  rw[all_eq_true]; intro cv hcv
  rw[key v hv cv hcv]; exact all_eq_true.1 (hh v hv) cv hcv
theorem Ri {ks:List Nat}:∀{lm:Nat->Option ay} {j:Nat} {B:ay},look (aJ lm ks) j=some B->∃B0,lm j=some B0/\((∃t l,B0=.cu t l)\/∀ver,B.data ver=B0.data ver):=by
 induction ks with
 | nil=>intro lm j B h; cases h
 | cons k ks ih =>
  intro lm j B h
  simp only[aJ] at h
  split at h
  ·rename_i B1 hB1
   obtain⟨B0,hl,hf⟩:=Option.bind_eq_some_iff.1 hB1
   have hd:(∃t l,B0=.cu t l)\/∀ver,B1.data ver=B0.data ver:=by
    cases B0 with
    | row e t v o l=>injection hf with hf; subst hf; exact .inr fun ver=>rfl
    | cU t l=>injection hf with hf; subst hf; exact .inr fun ver=>by simp[ay.data,eq_comm]
    | cu t l=>exact .inl ⟨t,l,rfl⟩
    | _=>cases hf
   have hnm:∀t l,B1 ≠ .cu t l:=by
    intro t l e
    cases B0<;>first|(injection hf with hf; rw[<-hf] at e; cases e)|cases hf
   rw[a8,or_eq_some_iff] at h
   rcases h with h|⟨_,h⟩
   ·obtain⟨B2,h1,h2⟩:=ih h
    by_cases hj:j=k
    ·subst hj
     rw[if_pos rfl] at h1
     injection h1 with h1
     subst h1
     refine⟨B0,hl,hd.imp id fun hd ver=>?_⟩
     rcases h2 with ⟨t,l,e⟩|h2
     ·exact absurd e (hnm t l)
     ·exact (h2 ver).trans (hd ver)
    ·rw[if_neg hj] at h1; exact⟨B2,h1,h2⟩
   ·simp only[look] at h
    split at h
    ·rename_i hj
     injection h with h
     subst h hj
     exact⟨B0,hl,hd⟩
    ·cases h
  ·exact ih h
theorem I8 (lm:Nat->Option ay) (ks:List Nat) (ap:Bool) (v:AV) (hn:∀k ver t l,v=.row k ver->lm k ≠ some (.cu t l)):v.data (lB lm ks ap)=v.data lm:=by
 cases v with
 | row k ver =>
  unfold lB
  cases ap with
  | true=>rfl
  | false =>
   simp only[false_eq_true,if_false,AV.data]
   cases hk:look (aJ lm ks) k with
   | none=>rfl
   | some B =>
    obtain⟨B0,h1,h2⟩:=Ri hk
    rcases h2 with ⟨t,l,rfl⟩|h2
    ·exact absurd h1 (hn k ver t l rfl)
    ·simp only[Option.some_or,h1,Option.bind_some,h2]
 | _=>rfl
theorem P2 {lm:Nat->Option ay} {v:AV} (h:gR lm v=true):∀k ver t l,v=.row k ver->lm k ≠ some (.cu t l):=by
 rintro k ver t l rfl e
 simp only[gR,e] at h
 cases h
theorem zh {lm lm':Nat->Option ay}:∀{t:Ty} {x:t.den} {cs:List AV},(∀v ∈ cs,v.data lm'=v.data lm)->Is lm t x cs->Is lm' t x cs
 | .int,_,_,_,h=>h
 | .bool,_,_,_,h=>h
 | .str,_,_,_,h=>h
 | .u8,_,_,_,h=>h
 | .dr _,_,_,_,h=>h
 | .ext _ _,_,_,_,h=>h
 | .slice a,l,cs,h,⟨v,e,hv⟩=>⟨v,e,hv.imp (fun hv=>(h v (by rw[e]; exact mem_cons_self)).trans hv) id⟩
 | .prod a b,x,cs,h,⟨h1,h2⟩=>⟨zh (fun v hv=>h v (mem_of_mem_take hv)) h1,zh (fun v hv=>h v (mem_of_mem_drop hv)) h2⟩
theorem Vd {lm lm':Nat->Option ay} {d:aL} {v:AV} (h:∀u ∈ cellsOf v,u.data lm'=u.data lm) (hi:dw lm d v):dw lm' d v:=by
 cases v<;>exact⟨hi.1,zh h hi.2⟩
theorem Lk {t:Ty} {x:t.den} {l:List t.den} {cs:List Value} {css:List (List Value)} {f:List Nat} {fps:List (List Nat)} (h:t.rp.rep w cs x f) (h2:eZ t.rp w l css fps):eZ t.rp w (x :: l) (cs :: css) (f :: fps):=by
 obtain⟨r1,r2,r3⟩:=h2
 refine⟨by simpa using r1,by simpa using r2,fun i y hy=>?_⟩
 cases i with
 | zero=>simp at hy; subst hy; exact⟨cs,f,rfl,rfl,h⟩
 | succ i=>simpa using r3 i y (by simpa using hy)
theorem Bu (hs:aH c σ Γ a w) {v:AV} {us:List Value} {t:Ty} {x:t.den} (hc:aA (aQ c σ.mem Γ w) (cellsOf v) us) (hi2:Is (look σ.mem) t x (cellsOf v)) (ho:(cellsOf v).all (gR (look σ.mem))=true) (hn:(bc (cellsOf v)).Nodup) :
  ∃fp,t.rp.rep w us x fp/\gx c w fp/\∀b ∈ fp,∃k ∈ bc (cellsOf v),Holds σ Γ k b/\Live σ.mem k:=by
 obtain⟨fp,h1,h2,h3⟩:=hs.rE hc hi2 ho hn
 refine⟨fp,h1,h2,fun b hb=>?_⟩
 obtain⟨k,hk,hh⟩:=h3 b hb
 obtain⟨cv,hcv,hkv⟩:=mem_flatMap.1 hk
 have hcv':∃ver,cv=.row k ver:=by
  cases cv with
  | row k' ver=>simp at hkv; subst hkv; exact⟨ver,rfl⟩
  | _=>simp at hkv
 obtain⟨ver,rfl⟩:=hcv'
 exact⟨k,hk,hh,xr (all_eq_true.1 ho _ hcv)⟩
theorem U8 (hs:aH c σ Γ a w) {v:AV} {u:Value} {t:Ty} {x:t.den} (hv:bq c σ.mem Γ w v u) (hok:v.ok=true) (hi:dw (look σ.mem) ⟨t,x⟩ v) (ho:(cellsOf v).all (gR (look σ.mem))=true) (hn:(bc (cellsOf v)).Nodup) :
  ∃fp,t.rp.rep w u.cells.toList x fp/\gx c w fp/\∀b ∈ fp,∃k ∈ bc (cellsOf v),Holds σ Γ k b/\Live σ.mem k:=by
 have hc:=(b8 hv).cells hok
 have hi2:Is (look σ.mem) t x (cellsOf v):=by
  cases v with
  | ke=>cases hok
  | dY _=>cases hok
  | _=>exact hi.2
 exact Bu hs hc hi2 ho hn
theorem Fs (hs:aH c σ Γ a w) {t:Ty}:∀{vs:List AV} {us:List Value} {l:List t.den},aA (bq c σ.mem Γ w) vs us->vs.all AV.ok=true->aA (fun v x=>dw (look σ.mem) ⟨t,x⟩ v) vs l->vs.all (fun v=>(cellsOf v).all (gR (look σ.mem)))=true->(vs.flatMap (fun v=>bc (cellsOf v))).Nodup →
  ∃fps,eZ t.rp w l (us.map fun u=>u.cells.toList) fps/\gx c w fps.flatten/\∀b ∈ fps.flatten,∃k ∈ vs.flatMap (fun v=>bc (cellsOf v)),Holds σ Γ k b/\Live σ.mem k
 | [],[],[],_,_,_,_,_=>⟨[],⟨rfl,rfl,fun i x h=>by simp at h⟩,cO _ _,fun b hb=>by simp at hb⟩
 | v :: vs,u :: us,x :: l,⟨h1,h2⟩,hok,⟨h3,h4⟩,ho,hn=>by
  rw[all_cons,Bool.and_eq_true] at ho hok
  rw[flatMap_cons,nodup_append] at hn
  obtain⟨fps,r1,r2,r3⟩:=Fs hs h2 hok.2 h4 ho.2 hn.2.1
  obtain⟨fp,g1,g2,g3⟩:=U8 hs h1 hok.1 h3 ho.1 hn.1
  refine⟨fp :: fps,Lk g1 r1,⟨?_,fun b hb=>?_⟩,fun b hb=>?_⟩
  ·rw[flatten_cons,nodup_append]
   refine⟨g2.1,r2.1,fun b hb b' hb' e=>?_⟩
   subst e
   obtain⟨k,hk,hh,_⟩:=g3 b hb
   obtain⟨k',hk',hh',_⟩:=r3 b hb'
   exact hn.2.2 k hk k' hk' (sH hs hh hh')
  ·rw[flatten_cons,mem_append] at hb
   exact hb.elim (g2.2 b) (r2.2 b)
  ·rw[flatten_cons,mem_append] at hb
   rw[flatMap_cons]
   rcases hb with hb|hb
   ·obtain⟨k,hk,hh⟩:=g3 b hb; exact⟨k,mem_append.2 (.inl hk),hh⟩
   ·obtain⟨k,hk,hh⟩:=r3 b hb; exact⟨k,mem_append.2 (.inr hk),hh⟩
 | [],_ :: _,_,h,_,_,_,_=>h.elim
 | _ :: _,[],_,h,_,_,_,_=>h.elim
 | [],[],_ :: _,_,_,h,_,_=>h.elim
 | _ :: _,_ :: _,[],_,_,h,_,_=>h.elim
end
theorem IH (off:Nat):∀(us:List Value) (k:Nat) (C:Array Value),off+k+us.length<=C.size →
  ∀R,(us.zipIdx k).foldl (fun cs (x:Value × Nat)=>cs.setIfInBounds (off+x.2) x.1) C=R->R.size=C.size/\(∀j v,us[j]? = some v->R[off+k+j]? = some v)/\∀i,i < off+k\/off+k+us.length<=i->R[i]? = C[i]?
 | [],k,C,h,R,hR=>by
  subst hR
  exact⟨rfl,fun j v hj=>by simp at hj,fun i _=>rfl⟩
 | u :: us,k,C,h,R,hR=>by
  simp only[List.zipIdx_cons,foldl_cons] at hR
  simp only[length_cons] at h
  obtain⟨h1,h2,h3⟩:=IH off us (k+1) (C.setIfInBounds (off+k) u) (by simp; omega) R hR
  refine⟨by simpa using h1,fun j v hj=>?_,fun i hi=>?_⟩
  ·cases j with
   | zero =>
    simp at hj; subst hj
    rw[h3 _ (.inl J)]
    simp only[add_zero]
    rw[Array.getElem?_setIfInBounds_self_of_lt J]
   | succ j =>
    have:=h2 j v (by simpa using hj)
    rw[show off+k+(j+1)=off+(k+1)+j from J]; exact this
  ·simp only[length_cons] at hi
   rw[h3 i J,Array.getElem?_setIfInBounds_ne J]
theorem RC (off:Nat) (v:Value) (C:Array Value) (h:off+v.cells.size<=C.size) :
  v.cells.zipIdx.foldl (fun cs (x:Value × Nat)=>cs.setIfInBounds (off+x.2) x.1) C=(C.toList.take off++v.cells.toList++C.toList.drop (off+v.cells.toList.length)).toArray:=by
 rw[<-Array.foldl_toList,Array.toList_zipIdx]
 obtain⟨h1,h2,h3⟩:=IH off v.cells.toList 0 C (by simpa using h) _ rfl
 apply toList_inj.1
 rw[toList_toArray]
 refine JG (by simpa using h) (by simpa using h1) (fun j x hj=>?_) (fun i hi=>?_)
 ·rw[getElem?_toList]; exact h2 j x hj
 ·rw[getElem?_toList,getElem?_toList]; exact h3 i (by simpa using hi)
theorem Fk (place:Nat->Option (Nat × Nat)) (C:Array Value) (i:Nat) (v:Value) (rest:List (Nat × Value)) (off size:Nat) (hp:place i=some (off,size)) (hs:v.cells.size=size) (hl:off+size<=C.size) :
  Instr.fill place C ((i,v) :: rest)=Instr.fill place (C.toList.take off++v.cells.toList++C.toList.drop (off+v.cells.toList.length)).toArray rest:=by
 rw[Instr.fill,hp]
 simp only
 rw[if_neg (by simp; omega),<-RC off v C J]
def wV (s:Ty) (d:sF):Option (List s.den):=@dite _ (d.1=s) (Classical.propDecidable _) (fun h=>some (h ▸ d.2)) (fun _=>none)
theorem Rk (s:Ty) (l:List s.den):wV s ⟨s,l⟩=some l:=by unfold wV; rw[dif_pos rfl]
theorem yL {s:Ty} {d:sF} {l:List s.den} (h:wV s d=some l):d=⟨s,l⟩:=by
 unfold wV at h
 split at h
 ·rename_i e
  obtain⟨t,m⟩:=d
  subst e
  injection h with h
  subst h
  rfl
 ·cases h
def WQ (lm:Nat->Option ay) (a:Ty) (v:AV):Option (List a.den) :=
 match v with
 | .sc (.slice none 0 0)=>some []
 | v=>(v.data lm).bind (wV a)
def Z6:List AV->Option Int
 | [.sc (.int .i64 n)]=>some n
 | _=>none
def rdB:List AV->Option Bool
 | [.sc (.bool n)]=>some n
 | _=>none
def rdT:List AV->Option ByteArray
 | [.sc (.string n)]=>some n
 | _=>none
def rdU:List AV->Option Int
 | [.sc (.int .u8 n)]=>some n
 | _=>none
def ZX (lm:Nat->Option ay) (a:Ty):List AV->Option (List a.den)
 | [v]=>WQ lm a v
 | _=>none
def uv (lm:Nat->Option ay):(t:Ty)->List AV->Option t.den
 | .int,cs=>Z6 cs
 | .bool,cs=>rdB cs
 | .str,cs=>rdT cs
 | .u8,cs=>rdU cs
 | .slice a,cs=>ZX lm a cs
 | .prod a b,cs=>match uv lm a (cs.take a.size),uv lm b (cs.drop a.size) with
  | some x,some y=>some (x,y)
  | _,_=>none
 | .dr _,_=>none
 | .ext _ _,_=>none
def Xc (lm:Nat->Option ay) (t:Ty) (v:AV):Option t.den :=
 match v with
 | .agg cs=>if t.isAgg=true then uv lm t cs else none
 | v=>if t.isAgg=true then none else uv lm t [v]
def Tn (lm:Nat->Option ay) (t:Ty):List AV->Option (List t.den)
 | []=>some []
 | v :: vs=>match Xc lm t v,Tn lm t vs with
  | some x,some l=>some (x :: l)
  | _,_=>none
theorem abc {lm:Nat->Option ay} {a:Ty} {v:AV} {l:List a.den} (h:WQ lm a v=some l):WB lm a l v:=by
 unfold WQ at h
 split at h
 ·injection h with h; subst h; exact .inr ⟨rfl,rfl⟩
 ·cases hd:v.data lm with
  | none=>rw[hd] at h; cases h
  | some d=>rw[hd] at h; exact .inl (hd.trans (congrArg some (yL h)))
theorem IN {lm:Nat->Option ay}:∀{t:Ty} {cs:List AV} {x:t.den},uv lm t cs=some x->Is lm t x cs:=by
 intro t
 induction t with
 | prod a b iha ihb =>
  intro cs x h
  simp only[uv] at h
  split at h
  ·rename_i x1 y1 h1 h2; injection h with h; subst h; exact⟨iha h1,ihb h2⟩
  ·cases h
 | slice a iha =>
  intro cs x h
  simp only[uv,ZX] at h
  split at h
  ·exact⟨_,rfl,abc h⟩
  ·cases h
 | int=>intro cs x h; simp only[uv,Z6] at h; split at h<;>first|(injection h with h; subst h; rfl)|cases h
 | bool=>intro cs x h; simp only[uv,rdB] at h; split at h<;>first|(injection h with h; subst h; rfl)|cases h
 | str=>intro cs x h; simp only[uv,rdT] at h; split at h<;>first|(injection h with h; subst h; rfl)|cases h
 | u8=>intro cs x h; simp only[uv,rdU] at h; split at h<;>first|(injection h with h; subst h; rfl)|cases h
 | dr f=>intro cs x h; cases h
 | ext e a _=>intro cs x h; cases h
theorem Z2 {lm:Nat->Option ay} {t:Ty} {v:AV} {x:t.den} (h:Xc lm t v=some x):dw lm ⟨t,x⟩ v:=by
 unfold Xc at h
 split at h
 ·split at h
  ·rename_i ha; exact⟨ha,IN h⟩
  ·cases h
 ·split at h
  ·cases h
  ·rename_i hv ha
   have ha':t.isAgg=false:=by simpa using ha
   cases v with
   | agg cs=>exact absurd rfl (hv cs)
   | _=>exact⟨ha',IN h⟩
theorem Rg {lm:Nat->Option ay} {t:Ty}:∀{vs:List AV} {l:List t.den},Tn lm t vs=some l->aA (fun v x=>dw lm ⟨t,x⟩ v) vs l
 | [],l,h=>by injection h with h; subst h; trivial
 | v :: vs,l,h=>by
  simp only[Tn] at h
  split at h
  ·rename_i x m h1 h2; injection h with h; subst h; exact⟨Z2 h1,Rg h2⟩
  ·cases h
def idx:Nat->List (Nat × Operand)->Bool
 | _,[]=>true
 | k,(i,_) :: ps=>i == k && idx (k+1) ps
theorem Ff:∀{ps:List (Nat × Operand)} {k:Nat},idx k ps=true->ps.map (·.1)=List.range' k ps.length
 | [],_,_=>rfl
 | (i,_) :: ps,k,h=>by
  simp only[idx,Bool.and_eq_true,beq_iff_eq] at h
  simp only[map_cons,length_cons,List.range'_succ,h.1,Ff h.2]
def kV (P:Program) (e:TypeId):Option Nat:=(P.info? e).map (·.bytes)
section
variable (P:Program) (T:TypeId->Option Ty) (lt:Nat->Option AV) (lm:Nat->Option ay) (nx:Nat) (K:bb->Prop)
def o9 (ty:TypeId) (len:Nat) (parts:Array (Nat × Operand)):Prop :=
 match P.underlying ty with
 | some (.slice e) =>
  match T e,ia lt (parts.toList.map (·.2)) with
  | some t,some vs =>
   idx 0 parts.toList=true/\parts.toList.length=len/\len * t.size<=16777216/\vs.all AV.ok=true ∧
   match Tn (lB lm (vs.flatMap AV.rows) false) t vs with
   | some l=>K ⟨.row nx 0,(nx,.row e t 0 (t.flat || lK lm vs) l) :: aJ lm (vs.flatMap AV.rows),vs.flatMap AV.rows⟩
   | none=>False
  | _,_=>False
 | _=>False
def zj (ty:TypeId) (x y:Operand):Prop :=
 match P.underlying ty with
 | some (.slice e) =>
  match T e,kV P e,ev lt x,ev lt y with
  | some t,some i,some (.row k ver),some v =>
   match lm k,v.data lm with
   | some (.row e' s vv l0 l),some d =>
    match wV s d with
    | some m=>e'=e/\vv=ver/\k ∉ v.rows/\s.size=t.size/\(l.length+m.length) * i<=140737488355328/\l.length+m.length<=9223372036854775807 ∧
     K ⟨.row k (ver+1),(k,.row e s (ver+1) (s.flat || (!s.flat && l0 && gR lm v)) (l++m)) :: (if (!s.flat && l0 && gR lm v)=true then aJ lm v.rows else []),k :: v.rows⟩
    | none=>False
   | _,_=>False
  | some t,some i,some (.sc (.slice none 0 0)),some v =>
   match v.data lm with
   | some d =>
    match wV t d with
    | some m=>m.length * i<=140737488355328/\m.length<=9223372036854775807/\K ⟨.row nx 0,(nx,.row e t 0 (t.flat || (!t.flat && gR lm v)) m) :: (if (!t.flat && gR lm v)=true then aJ lm v.rows else []),v.rows⟩
    | none=>False
   | none=>False
  | _,_,_,_=>False
 | _=>False
def qF (ty:TypeId) (x y:Operand):Prop :=
 match P.underlying ty with
 | some (.slice e) =>
  match T e,kV P e,ev lt x,ev lt y with
  | some t,some i,some (.sc (.int .i64 n)),some (.sc (.int .i64 m))=>0<=n/\n<=m/\(i:Int) * m<=281474976710656 ∧
   match t with
   | .slice .int=>n=m/\K ⟨.row nx n.toNat,[(nx,.box (replicate n.toNat (.sc (.slice none 0 0))))],[]⟩
   | _=>K ⟨.row nx 0,[(nx,.row e t 0 true (replicate n.toNat t.zero))],[]⟩
  | _,_,_,_=>False
 | _=>False
def xN (x:Option Operand) (z:Int):Option Int :=
 match x with
 | none=>some z
 | some x=>match ev lt x with
  | some (.sc (.int .i64 n))=>some n
  | _=>none
def mB (s:Ty) (l:List s.den) (a b:Int):AV->Prop
 | .row k ver=>K ⟨.sl s ((l.take b.toNat).drop a.toNat),aJ lm [k],[k]⟩\/(a=0/\∃(e:TypeId) (o:Bool),lm k=some (.row e s ver o l)/\K ⟨.row k (ver+1),[(k,.row e s (ver+1) s.flat (l.take b.toNat))],[k]⟩)
 | v=>K ⟨.sl s ((l.take b.toNat).drop a.toNat),aJ lm v.rows,v.rows⟩
def BW (ty:TypeId) (x:Operand) (lo hi mx:Option Operand):Prop :=
 match P.underlying ty,ev lt x with
 | some (.slice e),some v =>
  match T e,v.data lm with
  | some t,some ⟨s,l⟩ =>
   match xN lt lo 0,xN lt hi l.length with
   | some a,some b=>mx=none/\t.size=s.size/\0<=a/\a<=b/\b<=l.length/\mB lm K s l a b v
   | _,_=>False
  | _,_=>False
 | _,_=>False
def sw (ty:TypeId) (x y:Operand):Prop :=
 match T ty,ev lt x,ev lt y with
 | some t,some (.pL k ver i off),some v =>
  match lm k with
  | some (.row e s vv oo l)=>off=0/\vv=ver/\s.size=t.size/\i < l.length/\v.ok=true/\k ∉ v.rows ∧
   match uv (lB lm v.rows false) s (cellsOf v) with
   | some x'=>K ⟨.ke,(k,.row e s ver (s.flat || (oo && lK lm [v])) (l.set i x')) :: aJ lm v.rows,k :: v.rows⟩
   | none=>False
  | _=>False
 | _,_,_=>False
def Om (xs:Array Operand):Prop :=
 match ia lt xs.toList with
 | some [.sc (.int .i64 a),.sc (.int .i64 b)]=>K (.val (.sc (.int .i64 (min a b))))
 | _=>False
def PI (xs:Array Operand):Prop :=
 match ia lt xs.toList with
 | some [.sc (.int .i64 a),.sc (.int .i64 b)]=>K (.val (.sc (.int .i64 (max a b))))
 | _=>False
end
section
variable {P:Program} {T:TypeId->Option Ty} {c:Cx} {lt:Nat->Option AV} {lm:Nat->Option ay} {nx:Nat} {K:bb->Prop} {o:Oper}
theorem Mi {σ:St} {Γ:aC} {a:Act} {w:World} (hs:aH c σ Γ a w) (hl:∀t ∈ kG o,look σ.tmps t=lt t) {xs:List Operand} {vs:List AV} (hx:∀x ∈ xs,x ∈ o.op.operands.toList) (h:ia lt xs=some vs) (hok:vs.all AV.ok=true):aA (fun v x=>bq c σ.mem Γ w v (a.eval x)) vs xs :=
 mN hs (fun x hxm t e=>hl t (fX (hx x hxm) e)) h hok
def Mx (T:TypeId->Option Ty) (f:Field):Nat × Nat:=(f.offset,((T f.type).map Ty.size).getD 0)
theorem Km (hT:bD P T) {fs:Array Field} {σ:St} {Γ:aC} {a:Act} {w:World} (hs:aH c σ Γ a w):∀{parts:List (Nat × Operand)} {cs cs':List AV} {us:List Value},(∀p ∈ parts,∀t,p.2=.tmp t->look σ.tmps t=lt t) →
  C3 T lt fs cs parts=some cs'->aA (aQ c σ.mem Γ w) cs us->∃us':List Value,Instr.fill (fun i=>(fs.map (Mx T))[i]?) us.toArray (parts.map fun p=>(p.1,a.eval p.2))=some us'.toArray/\aA (aQ c σ.mem Γ w) cs' us'
 | [],cs,cs',us,_,h,hc=>by injection h with h; subst h; exact⟨us,rfl,hc⟩
 | (i,x) :: parts,cs,cs',us,hl,h,hc=>by
  simp only[C3] at h
  split at h
  ·rename_i fd v hfd hv
   split at h
   ·rename_i ft hft
    split at h
    ·rename_i hcond
     obtain⟨hok,h1,h2⟩:=hcond
     have hr:=(ll hs (hl (i,x) mem_cons_self) hv).cells hok
     have hlr:=hr.len
     have hlc:=hc.len
     obtain⟨us',h3,h4⟩:=Km hT hs (fun p hp=>hl p (mem_cons_of_mem _ hp)) h (((hc.take fd.offset).app hr).app (hc.drop (fd.offset+(cellsOf v).length)))
     refine⟨us',?_,h4⟩
     simp only[length_toList] at hlr
     rw[map_cons,Fk _ _ _ _ _ fd.offset ft.size (by simp[Mx,hfd,hft]) (by simp only; omega) (by simp; omega)]
     simp only[length_toList,toList_toArray]
     rw[<-hlr]; exact h3
    ·cases h
   ·cases h
  ·cases h
theorem zy (hT:bD P T) {w:World}:∀(fs:List Field),fs.all (fun fd=>(T fd.type).isSome)=true →
  (fs.mapM fun (f:Field)=>(do pure (f.offset,<-sizeOf f.type):Sem (Nat × Nat))).run P w=.ok (fs.map (Mx T)) w
 | [],_=>rfl
 | f :: fs,h=>by
  simp only[all_cons,Bool.and_eq_true] at h
  obtain⟨ft,hft⟩:=Option.isSome_iff_exists.1 h.1
  have ih:=zy hT (w:=w) fs h.2
  simp only[List.mapM_cons,Sem.run_bind,(hT _ _ hft).sizeOf,Result.andThen_ok,Sem.run_pure,ih,map_cons,Mx,hft,map_some,getD_some]
theorem QL (hT:bD P T) {ty:TypeId} {parts:Array (Nat × Operand)} (ho:o.op=.build ty parts) (h:Dm P T lt K ty parts):∃e,K e/\aT P c lt lm nx o e:=by
 unfold Dm at h
 split at h
 ·rename_i t fs ht hu
  obtain⟨hall,h⟩:=h
  split at h
  ·rename_i cs hcs
   refine⟨_,h,aT.pure fun σ Γ a w hs hl _=>?_⟩
   have hz:=Dy (c:=c) (M:=σ.mem) (Γ:=Γ) (w:=w) t
   obtain⟨us',h1,h2⟩:=Km hT hs (fun p hp t' e=>hl t' (fX (x:=p.2) (by simp only[ho,Op.operands]; exact mem_map.2 ⟨p,hp,rfl⟩) e)) hcs hz
   refine⟨.agg us'.toArray,?_,us',rfl,h2⟩
   have hm:=zy hT (w:=w) fs.toList hall
   have hm2:(fs.mapM fun (f:Field)=>(do pure (f.offset,<-sizeOf f.type):Sem (Nat × Nat))).run P w=.ok (fs.map (Mx T)) w:=by
    obtain⟨l⟩:=fs
    rw[List.mapM_toArray,map_eq_pure_bind,Sem.run_bind,hm]
    simp
   have hz2:t.zv.cells=t.zc.toArray:=sb t
   have h1':Instr.fill (fun i=>(fs.map (Mx T))[i]?) t.zc.toArray ((parts.map fun x=>(x.1,a.eval x.2)).toList)=some us'.toArray:=by rw[toList_map]; exact h1
   simp only[execOp,ho,Instr.build,Sem.run_bind,(hT _ _ ht).zero,Result.andThen_ok,run_underlying hu,hm2,hz2,h1',Sem.run_pure]
  ·exact h.elim
 ·exact h.elim
theorem Qx {ks:List Nat}:∀{lm:Nat->Option ay} {k:Nat},lm k=none->look (aJ lm ks) k=none:=by
 induction ks with
 | nil=>intros; rfl
 | cons j ks ih =>
  intro lm k h
  simp only[aJ]
  split
  ·rename_i B hB
   by_cases hkj:k=j
   ·subst hkj; rw[h] at hB; cases hB
   ·rw[a8,ih (by simp only[if_neg hkj]; exact h),aG _ _ hkj]; rfl
  ·exact ih h
theorem CS {size:Nat} (hs:0 < size):∀(us:List Value) (k:Nat) (C:Array Value),(∀u ∈ us,u.cells.size=size)->C.size=(k+us.length) * size →
  Instr.fill (fun i=>some (i * size,size)) C ((us.zipIdx k).map fun x=>(x.2,x.1))=some (C.toList.take (k * size)++(us.map fun u=>u.cells.toList).flatten).toArray
 | [],k,C,_,hC=>by
  simp only[length_nil,add_zero] at hC
  simp only[List.zipIdx_nil,map_nil,Instr.fill,List.flatten_nil,append_nil]
  rw[List.take_of_length_le (by simp[hC])]
 | u :: us,k,C,hu,hC=>by
  have h1:=hu u mem_cons_self
  simp only[length_cons] at hC
  have e1:(k+(us.length+1)) * size=k * size+size+us.length * size:=by rw[add_mul,succ_mul]; omega
  rw[e1] at hC
  rw[List.zipIdx_cons,map_cons,Fk _ _ _ _ _ (k * size) size rfl h1 J,CS hs us (k+1) _ (fun x hx=>hu x (mem_cons_of_mem _ hx))
   (by simp only[size_toArray,length_append,length_take,length_drop,length_toList]; rw[add_mul,succ_mul]; omega)]
  congr 2
  have e2:(C.toList.take (k * size)++u.cells.toList++C.toList.drop (k * size+u.cells.toList.length)).take ((k+1) * size)=C.toList.take (k * size)++u.cells.toList:=by
   refine List.take_left' ?_
   simp only[length_append,length_take,length_toList]
   rw[succ_mul]; omega
  rw[toList_toArray,e2,map_cons,flatten_cons,append_assoc]
theorem UA {t:Ty} {u:Value} {cs:List Value} (h:pk t u cs) (h1:∀v ∈ cs,v.oneCell'=true):u.cells.toList=cs:=by
 rcases h with ⟨_,rfl⟩|⟨_,rfl⟩
 ·rfl
 ·have:=h1 u ah
  cases u<;>first|rfl|cases this
theorem F2 {t:Ty} {w:World} {G:Nat->Prop}:∀{us:List Value} {l:List t.den},aA (fun u x=>∃fp,bV w u ⟨t,x⟩ fp/\∀b ∈ fp,G b) us l->∃fps,eZ t.rp w l (us.map fun u=>u.cells.toList) fps/\∀b ∈ fps.flatten,G b
 | [],[],_=>⟨[],⟨rfl,rfl,fun i x h=>by simp at h⟩,fun b hb=>by simp at hb⟩
 | u :: us,x :: l,⟨⟨fp,⟨cs,hp,hr⟩,hg⟩,h2⟩=>by
  obtain⟨fps,⟨r1,r2,r3⟩,hgs⟩:=F2 h2
  refine⟨fp :: fps,⟨by simpa using r1,by simpa using r2,fun i y hy=>?_⟩,fun b hb=>?_⟩
  ·cases i with
   | zero =>
    simp at hy; subst hy
    exact⟨cs,fp,by simp[UA hp (t.rp.one hr)],rfl,hr⟩
   | succ i=>simpa using r3 i y (by simpa using hy)
  ·rw[flatten_cons,mem_append] at hb
   exact hb.elim (hg b) (hgs b)
 | [],_ :: _,h=>h.elim
 | _ :: _,[],h=>h.elim
theorem Ar {α β γ:Type} {R:α->β->Prop} {R':α->γ->Prop} {f:β->γ}:∀{l:List α} {m:List β},(∀a b,R a b->R' a (f b))->aA R l m->aA R' l (m.map f)
 | [],[],_,_=>trivial
 | _ :: _,_ :: _,h,⟨h1,h2⟩=>⟨h _ _ h1,Ar h h2⟩
 | [],_ :: _,_,h=>h.elim
 | _ :: _,[],_,h=>h.elim
theorem Gb {α β γ:Type} {R:α->β->Prop} {R':α->γ->Prop} {Q:β->γ->Prop}:∀{l:List α} {m:List β} {n:List γ},(∀a b c,a ∈ l->R a b->R' a c->Q b c)->aA R l m->aA R' l n->aA Q m n
 | [],[],[],_,_,_=>trivial
 | a :: _,b :: _,c :: _,h,⟨h1,h2⟩,⟨h3,h4⟩=>⟨h _ _ _ mem_cons_self h1 h3,Gb (fun a b c ha=>h a b c (mem_cons_of_mem _ ha)) h2 h4⟩
 | [],_ :: _,_,_,h,_=>h.elim
 | _ :: _,[],_,_,h,_=>h.elim
 | [],[],_ :: _,_,_,h=>h.elim
 | _ :: _,_ :: _,[],_,_,h=>h.elim
theorem FO {t:Ty} {w:World} {l:List t.den} {css:List (List Value)} {fps:List (List Nat)} (hf:t.flat=true) (h:eZ t.rp w l css fps):fps.flatten=[]:=by
 refine List.flatten_eq_nil_iff.2 fun f hfm=>?_
 obtain⟨i,hi,rfl⟩:=getElem_of_mem hfm
 obtain⟨cs,f,_,h2,h3⟩:=h.2.2 i (l[i]'(by have:=h.2.1; omega)) (getElem?_eq_getElem (by have:=h.2.1; omega))
 rw[getElem?_eq_getElem hi] at h2
 injection h2 with h2
 rw[h2]; exact fL hf h3
theorem Dz (hT:bD P T) (hnx:∀k,nx<=k->lm k=none) {ty:TypeId} {len:Nat} {parts:Array (Nat × Operand)} (ho:o.op=.buildSlice ty len parts) (h:o9 P T lt lm nx K ty len parts):∃e,K e/\aT P c lt lm nx o e:=by
 unfold o9 at h
 split at h
 ·rename_i e hu
  split at h
  ·rename_i t vs ht hvs
   obtain⟨hix0,hixl,hlen,hok,h⟩:=h
   split at h
   rotate_left
   ·exact h.elim
   rename_i l hl3
   have hl2:=Rg hl3
   have hK:=h
   have hix:parts.toList.map (·.1)=List.range len:=by rw[Ff hix0,hixl,List.range_eq_range']
   refine⟨_,hK,fun p hp=>?_,fun σ Γ a w hs hl hm hn hd K' Q hK'=>?_⟩
   ·rcases mem_cons.1 hp with rfl|hp
    ·exact .inl (le_refl _)
    ·exact .inr (fj hp)
   have hnone:look σ.mem nx=none:=by
    by_cases hin:nx ∈ vs.flatMap AV.rows
    ·rw[hm nx hin]; exact hnx nx (le_refl _)
    ·exact hn (nx,_) mem_cons_self hin
   have hf':=hs.tR (ks:=vs.flatMap AV.rows)
   have hcongr:aJ (look σ.mem) (vs.flatMap AV.rows)=aJ lm (vs.flatMap AV.rows):=gN fun k hk=>hm k hk
   rw[hcongr] at hf'
   have hrows:∀v ∈ vs,∀k ∈ v.rows,k ∈ vs.flatMap AV.rows:=fun v hv k hk=>mem_flatMap.2 ⟨v,hv,hk⟩
   have hv:=Mi hf' hl (xs:=parts.toList.map (·.2)) (fun x hx=>by
    obtain⟨p,hp,rfl⟩:=mem_map.1 hx
    simp only[ho,Op.operands]; exact mem_map.2 ⟨p,hp,rfl⟩) hvs hok
   have hv2:=Ar (f:=a.eval) (R':=fun v u=>bq c (aJ lm (vs.flatMap AV.rows)++σ.mem) Γ w v u) (fun _ _ h=>h) hv
   have hdr:aA (fun u x=>∃fp,bV w u ⟨t,x⟩ fp/\∀b ∈ fp,Gd c (aJ lm (vs.flatMap AV.rows)++σ.mem) Γ b) ((parts.toList.map (·.2)).map a.eval) l:=by
    refine Gb (fun v u x hvm hvr hi=>?_) hv2 hl2
    have hi:dw (fun j=>(look (aJ lm (vs.flatMap AV.rows)) j).or (lm j)) ⟨t,x⟩ v:=hi
    obtain⟨fp,h1,_,h3⟩:=hf'.jN hvr (cV (fun k hk=>by rw[a8,hm k (hrows v hvm k hk)]) hi)
    refine⟨fp,h1,h3 fun k hk e t v' o' l hrow=>?_⟩
    rw[<-hcongr] at hrow
    exact (pA hrow).1 (hrows v hvm k hk)
   have hcore:∃fps,eZ t.rp w l (((parts.toList.map (·.2)).map a.eval).map fun u=>u.cells.toList) fps/\(∀b ∈ fps.flatten,Gd c (aJ lm (vs.flatMap AV.rows)++σ.mem) Γ b) ∧
     ((t.flat || lK lm vs)=true->gx c w fps.flatten/\∀b ∈ fps.flatten,∀j B,look (aJ lm (vs.flatMap AV.rows)++σ.mem) j=some B->b ∉ B.bY Γ j):=by
    by_cases hov:lK lm vs=true
    ·have hv0:=Mi hs hl (xs:=parts.toList.map (·.2)) (fun x hx=>by
      obtain⟨p,hp,rfl⟩:=mem_map.1 hx
      simp only[ho,Op.operands]; exact mem_map.2 ⟨p,hp,rfl⟩) hvs hok
     have hv1:=Ar (f:=a.eval) (R':=fun v u=>bq c σ.mem Γ w v u) (fun _ _ h=>h) hv0
     have hovL:∀v ∈ vs,∀u ∈ cellsOf v,gR lm u=true:=by
      simp only[lK,Bool.and_eq_true] at hov
      exact fun v hv u hu=>all_eq_true.1 (all_eq_true.1 hov.1 v hv) u hu
     rw[<-Bv hok (fun k hk=>hm k hk)] at hov
     have hov2:=hov
     simp only[lK,Bool.and_eq_true,decide_eq_true_eq] at hov2
     have hi1:aA (fun v x=>dw (look σ.mem) ⟨t,x⟩ v) vs l:=hl2.mono fun v x hv hi=>cV (fun k hk=>hm k (hrows v hv k hk)) (Vd (fun u hu=>(I8 lm _ false u (P2 (hovL v hv u hu))).symm) hi)
     obtain⟨fps,r1,r2,r3⟩:=Fs hs hv1 hok hi1 hov2.1 hov2.2
     have hfree:∀b ∈ fps.flatten,∀j B,look (aJ lm (vs.flatMap AV.rows)++σ.mem) j=some B->¬ B.mut Γ j b/\b ∉ B.bY Γ j:=by
      intro b hb j B hj
      obtain⟨k,hk,hh,hlv⟩:=r3 b hb
      obtain⟨v,hv,hkv⟩:=mem_flatMap.1 hk
      rw[qI (all_eq_true.1 hok v hv)] at hkv
      rw[<-hcongr] at hj
      exact uV hs (hrows v hv k hkv) hlv hh hj
     exact⟨fps,r1,fun b hb=>⟨(r2.2 b hb).1.gd,fun⟨j,B,hj,hmu⟩=>(hfree b hb j B hj).1 hmu⟩,fun _=>⟨r2,fun b hb j B hj=>(hfree b hb j B hj).2⟩⟩
    ·obtain⟨fps,hrw,hgd⟩:=F2 hdr
     refine⟨fps,hrw,hgd,fun hfl=>?_⟩
     have hfl':t.flat=true:=by simpa [hov] using hfl
     rw[FO hfl' hrw]; exact⟨cO _ _,fun b hb=>by cases hb⟩
   obtain⟨fps,hrw,hgd,hown⟩:=hcore
   have hll:l.length=len:=by
    have h1:=hdr.len
    have h2:=congrArg length hix
    simp at h1 h2; omega
   have hp0:=t.pos
   have hszu:∀u ∈ (parts.toList.map (·.2)).map a.eval,u.cells.size=t.size:=by
    intro u hu
    have:=hrw.len u.cells.toList (mem_map.2 ⟨u,hu,rfl⟩)
    rw[t.bW] at this; simpa using this
   have hrun:(execOp a.eval o).run P w=.ok (.value (.slice (some ⟨w.heap.size,0,none⟩) len len)) (w.alloc (.cells (((parts.toList.map (·.2)).map a.eval).map fun u=>u.cells.toList).flatten.toArray e)):=by
    have hfill:=CS (size:=t.size) (by rw[<-t.bW]; exact hp0) ((parts.toList.map (·.2)).map a.eval) 0 ((Array.range (len * t.size)).map (t.zv.cells[· % t.zv.cells.size]!)) hszu (by
     have h2:=congrArg length hix
     simp at h2; simp[h2])
    have hparts:(((parts.toList.map (·.2)).map a.eval).zipIdx 0).map (fun x=>(x.2,x.1))=(parts.map fun x=>(x.1,a.eval x.2)).toList:=by
     rw[toList_map]
     apply ext_getElem?
     intro i
     rw[getElem?_map,List.getElem?_zipIdx,getElem?_map,getElem?_map,getElem?_map]
     cases hpi:parts.toList[i]? with
     | none=>rfl
     | some p =>
      have h2:(parts.toList.map (·.1))[i]? = some p.1:=by rw[getElem?_map,hpi]; rfl
      rw[hix] at h2
      have h3:=List.getElem?_eq_some_iff.1 h2
      obtain⟨h3,h4⟩:=h3
      rw[List.getElem_range] at h4
      simp[h4]
    rw[hparts] at hfill
    simp only[zero_mul,List.take_zero,nil_append] at hfill
    have hsz:=(hT e t ht).sizeOf
    have hzv:=(hT e t ht).zero
    by_cases h0:len * t.size=0
    ·have hr0:∀f:Nat->Value,(Array.range (len * t.size)).map f=#[]:=fun f=>Array.eq_empty_of_size_eq_zero (by simp only[Array.size_map,Array.size_range]; exact h0)
     have h24:¬ len * t.size > 2 ^ 24:=J
     rw[hr0] at hfill
     simp only[execOp,ho,Instr.buildSlice,Sem.run_bind,run_underlying hu,Result.andThen_ok,hsz,if_pos h0,if_neg h24,Sem.run_pure,hr0]
     rw[hfill]
     simp[newRow]
    ·have h24:¬ len * t.size > 2 ^ 24:=J
     simp only[execOp,ho,Instr.buildSlice,Sem.run_bind,run_underlying hu,Result.andThen_ok,hsz,h0,if_false,h24,hzv,Sem.run_pure]
     rw[hfill]
     simp[newRow]
   have hgf:=Fj (base:=c.base) (e:=e) hs.hb hrw (by simp only[maxLen]; have:len<=len * t.size:=Nat.le_mul_of_pos_right _ (by rw[<-t.bW]; exact hp0); omega) [] len J (by simp only[maxLen]; have:len<=len * t.size:=Nat.le_mul_of_pos_right _ (by rw[<-t.bW]; exact hp0); omega) (by rw[hll]; simp)
   rw[append_nil,hll] at hgf
   have hnone':look (aJ lm (vs.flatMap AV.rows)++σ.mem) nx=none:=by rw[a8,Qx (hnx nx (le_refl _)),hnone]; rfl
   have hflt:∀b ∈ fps.flatten,b < w.heap.size:=by
    intro b hb
    obtain⟨f,hf,hbf⟩:=mem_flatten.1 hb
    obtain⟨i,hi,rfl⟩:=getElem_of_mem hf
    obtain⟨cs,f',_,h2,h3⟩:=hrw.2.2 i (l[i]'(by have:=hrw.2.1; omega)) (getElem?_eq_getElem (by have:=hrw.2.1; omega))
    rw[getElem?_eq_getElem hi] at h2
    injection h2 with h2
    rw[h2] at hbf
    exact t.rp.lt h3 b hbf
   have hs2:=hf'.newRow (k:=nx) (o:=t.flat || lK lm vs) hnone' (lW w _) hgf (fun b hb=>by injection hb with hb; subst hb; exact le_refl _) (fun b hb=>.inr ⟨hflt b hb,hgd b hb⟩)
    (fun hfl=>⟨dy (hown hfl).1 fun b hb=>(lW w _).block b (hflt b hb),(hown hfl).2⟩)
   refine j9 hrun (hK' (Γ.fB nx (.slice (some ⟨w.heap.size,0,none⟩) len len) fps.flatten) _ _ ?_)
   have h4:=hs2.put (d:=o.dst) (v:=.row nx 0) (u:=.slice (some ⟨w.heap.size,0,none⟩) len len) ⟨rfl,_,aD ..,le_refl _,fun _=>by rw[aC.cI]⟩ (fun x hx=>hd x hx)
   unfold St.app
   cases hdst:o.dst<;>simp only[hdst,St.put] at h4 ⊢<;>exact h4
  ·exact h.elim
 ·exact h.elim
end
section
variable {P:Program} {T:TypeId->Option Ty} {c:Cx} {lt:Nat->Option AV} {lm:Nat->Option ay} {nx:Nat} {K:bb->Prop} {o:Oper}
theorem j0 {t:Ty} {base:Nat} {w:World} {e:TypeId} {v:Value} {l:List t.den} {fps:List (List Nat)} (h:bh t.rp base w e v l fps) :
  ∃ad cc css,v=.slice ad l.length cc/\eZ t.rp w l css fps/\(ad=none->l=[])/\∀a,ad=some a->∀j d,css.flatten[j]? = some d->w.cell? (a.add j)=some d:=by
 obtain⟨xs,ho,hfl,he⟩:=h
 have hex:∀i,i < l.length->∃cs:List Value,∀x,l[i]? = some x->∃f,fps[i]? = some f/\t.rp.rep w cs x f/\∀j d,cs[j]? = some d->xs[i * t.rp.size+j]? = some d:=by
  intro i hi
  obtain⟨f,cs,h1,h2,h3⟩:=he i l[i] (getElem?_eq_getElem hi)
  refine⟨cs,fun x hx=>?_⟩
  rw[getElem?_eq_getElem hi] at hx
  injection hx with hx
  subst hx
  exact⟨f,h1,h2,h3⟩
 obtain⟨css,hcl,hcs⟩:=Q3 l.length hex
 have hrows:eZ t.rp w l css fps:=by
  refine⟨hcl,hfl,fun i x hx=>?_⟩
  have hi:=(List.getElem?_eq_some_iff.1 hx).1
  have hc:css[i]? = some (css[i]'J):=getElem?_eq_getElem J
  obtain⟨f,h1,h2,_⟩:=hcs i _ hc x hx
  exact⟨_,f,hc,h1,h2⟩
 rcases ho.2 with ⟨hn,h0⟩|⟨g,cap,cur,hv,hbg,hg',h1',h2',h3',h4'⟩
 ·have:l=[]:=List.eq_nil_of_length_eq_zero h0
  subst this
  exact⟨none,0,css,by rw[hn]; rfl,hrows,fun _=>rfl,fun a ha=>by cases ha⟩
 ·refine⟨_,cap,css,hv,hrows,(fun hn=>by cases hn),fun a ha j d hd=>?_⟩
  injection ha with ha
  subst ha
  obtain⟨cs,hc,hd⟩:=FG t.pos hrows.len hd
  have hi:j / t.rp.size < l.length:=by have:=(List.getElem?_eq_some_iff.1 hc).1; omega
  obtain⟨f,_,_,h3⟩:=hcs _ cs hc _ (getElem?_eq_getElem hi)
  have:=h3 _ d hd
  rw[show j / t.rp.size * t.rp.size+j % t.rp.size=j by rw[mul_comm]; exact Nat.div_add_mod j _] at this
  rw[ew,zero_add,cell_of_row w g _ cur _ (0,0) hg',<-getElem?_toList]
  rw[<-h4',getElem?_take] at this
  split at this
  ·exact this
  ·cases this
theorem td {σ:St} {Γ:aC} {a:Act} {w:World} (hs:aH c σ Γ a w) {v:AV} {u:Value} {t:Ty} {l:List t.den} (hv:aR c σ.mem Γ w v u) (hm:∀k ∈ v.rows,look σ.mem k=lm k) (hd:v.data lm=some ⟨t,l⟩) :
  ∃ad cc css fps,u=.slice ad l.length cc/\eZ t.rp w l css fps/\(∀b ∈ fps.flatten,Gd c σ.mem Γ b)/\(ad=none->l=[])/\∀a,ad=some a->∀j d,css.flatten[j]? = some d->w.cell? (a.add j)=some d:=by
 by_cases hrow:∃k ver e v' o l',v=.row k ver/\look σ.mem k=some (.row e t v' o l')
 ·obtain⟨k,ver,e,v',o',l',rfl,hk⟩:=hrow
  have hd':=tA hm hd
  simp only[AV.data,hk,Option.bind_some,ay.data] at hd'
  split at hd'
  ·rename_i hvv
   injection hd' with hd'; injection hd' with _ d2
   obtain rfl:=d2
   obtain⟨fps,hg,hf,hgd,_⟩:=hs.mm k _ hk
   obtain⟨_,B,hB,hbh⟩:=hv
   rw[hk] at hB; injection hB with hB; subst hB
   rw[hbh.2 hvv]
   obtain⟨ad,cc,css,h1,h2,h3,h4⟩:=j0 hg.1
   exact⟨ad,cc,css,fps,h1,h2,fun b hb=>hgd b (hf ▸ hb),h3,h4⟩
  ·cases hd'
 ·obtain⟨fp,hr,_,hg⟩:=AH hs hv hm hd
  obtain⟨ad,cc,css,fps,h1,h2,h3,h4,h5⟩:=OU hr
  refine⟨ad,cc,css,fps,h1,h2,fun b hb=>hg (fun k ver e e' t' v' o' l' hk=>?_) b (h3 b hb),h4,h5⟩
  subst e
  have hd':=tA hm hd
  have hd2:=hd'
  simp only[AV.data,hk,Option.bind_some,ay.data] at hd2
  split at hd2
  ·injection hd2 with hd2; injection hd2 with d1 d2
   subst d1
   exact hrow ⟨k,ver,e',v',o',l',rfl,hk⟩
  ·cases hd2
theorem tV {t:Ty} {w:World} {l:List t.den} {css:List (List Value)} {fps:List (List Nat)} (hrw:eZ t.rp w l css fps):∀b ∈ fps.flatten,b < w.heap.size:=by
 intro b hb
 obtain⟨f,hf,hbf⟩:=mem_flatten.1 hb
 obtain⟨i,hi,rfl⟩:=getElem_of_mem hf
 obtain⟨cs,f',_,h2,h3⟩:=hrw.2.2 i (l[i]'(by have:=hrw.2.1; omega)) (getElem?_eq_getElem (by have:=hrw.2.1; omega))
 rw[getElem?_eq_getElem hi] at h2
 injection h2 with h2
 rw[h2] at hbf
 exact t.rp.lt h3 b hbf
theorem qt {t:Ty} {base:Nat} {w:World} {e:TypeId} {v:Value} {l:List t.den} {fps:List (List Nat)} (hf:t.flat=true) (h:bh t.rp base w e v l fps):fps.flatten=[]:=by
 obtain⟨ad,cc,css,_,h2,_⟩:=j0 h
 exact FO hf h2
theorem oH {σ σ':St} {Γ':aC} {a:Act} {w':World} {K':Act->World->Prop} {e:bb} {u:Value} (hK':∀ Γ' a' w',aH c (σ.app o.dst e) Γ' a' w'->K' a' w') (hd:∀d,o.dst=some d->d < c.n) (hs:aH c σ' Γ' a w') (hv:aR c σ'.mem Γ' w' e.v u) (h0:σ'.tmps=σ.tmps) (h1:σ'.mem=e.j3++σ.mem):K' (a.put o.dst u) w':=by
 refine hK' Γ' _ _ ?_
 have:=hs.put (d:=o.dst) hv (fun x hx=>hd x hx)
 unfold St.app
 rw[<-h1]
 cases hdst:o.dst<;>simp only[hdst,St.put,h0] at this ⊢<;>first|exact this|(rw[<-h0]; exact this)
theorem uB (t:Ty):t.zv.cells.size=t.size:=by rw[sb]; simp[RS]
theorem PJ (hT:bD P T) (hnx:∀k,nx<=k->lm k=none) {ty:TypeId} {x y:Operand} (ho:o.op=.call { callee:=.builtin .append,args:=#[x,y],argTypes:=#[ty,ty] }) (h:zj P T lt lm nx K ty x y):∃e,K e/\aT P c lt lm nx o e:=by
 unfold zj at h
 have hm1:x ∈ o.op.operands.toList:=by simp[ho,Op.operands,Call.operands]
 have hm2:y ∈ o.op.operands.toList:=by simp[ho,Op.operands,Call.operands]
 have hrun:∀(a:Act) (w w':World) (u v v':Value),a.eval x=u->a.eval y=v->(Builtin.append_ #[ty,ty] o.type #[u,v]).run P w=.ok v' w'->(execOp a.eval o).run P w=.ok (.value v') w':=by
  intro a w w' u v v' h1 h2 h3
  simp only[execOp,ho,resolve,invoke,builtin,Sem.run_bind,Sem.run_pure,Result.andThen_ok,List.map_toArray,map_cons,map_nil,h1,h2,h3]
 split at h
 ·rename_i e hu
  split at h
  ·rename_i t i k ver v ht hi hx hy
   split at h
   ·rename_i e' s vv oo l d hk hdat
    split at h
    rotate_left
    ·exact h.elim
    rename_i m hmg
    obtain rfl:=yL hmg
    obtain⟨rfl,rfl,hkv,hss,hb1,hb2,hK⟩:=h
    obtain⟨i',dd,hi1,hi2,hi3,_,_⟩:=hT _ _ ht
    simp only[kV,hi1,map_some,Option.some.injEq] at hi
    subst hi
    have hsz':=s.bW
    have hps:=s.pos
    by_cases how:(!s.flat && oo && gR lm v)=true
    ·rw[how,Bool.or_true,if_pos rfl] at hK
     refine⟨_,hK,fun p hp=>?_,fun σ Γ a w hs hl hm hn hd K' Q hK'=>?_⟩
     ·rcases mem_cons.1 hp with rfl|hp
      ·exact .inr mem_cons_self
      ·exact .inr (mem_cons_of_mem _ (fj hp))
     simp only[Bool.and_eq_true,not_eq_true'] at how
     obtain⟨⟨hnf,rfl⟩,how⟩:=how
     have hk':=(hm k mem_cons_self).trans hk
     have hmv:∀j ∈ v.rows,look σ.mem j=lm j:=fun j hj=>hm j (mem_cons_of_mem _ hj)
     have hvr:=aX hs hl hm2 hy
     obtain⟨k2,ver2,rfl⟩:∃k2 ver2,v=.row k2 ver2:=by
      cases v with
      | row k2 ver2=>exact⟨k2,ver2,rfl⟩
      | sl _ _=>cases how
      | fx _ _ _=>cases how
      | _=>cases hdat
     have hkk:k ≠ k2:=fun e=>hkv (by rw[e]; exact mem_singleton.2 rfl)
     have how':rY σ (.row k2 ver2)=true:=by
      rw[rY,u7 (lm:=lm) (fun k' ver' he=>(by cases he; exact hmv k2 (mem_singleton.2 rfl)))]; exact how
     have hdat':(AV.row k2 ver2).data (look σ.mem)=some ⟨s,m⟩:=by rw[<-hdat]; exact nD fun k' ver' he=>(by cases he; exact hmv k2 (mem_singleton.2 rfl))
     obtain⟨fp,hr,hofp,hhold⟩:=hs.rE (t:=.slice s) (cs:=[.row k2 ver2]) (us:=[a.eval y]) ⟨hvr,trivial⟩ ⟨_,rfl,.inl hdat'⟩ (by simp[how']) (by simp[bc])
     have hlive:=xr how'
     obtain⟨ad,cc,css,fps2,hu2,hr2,hsub,hn2,hc2,hfpx⟩:=tv (p:=s.pos) hr
     have ho2:gx c w fps2.flatten:=by
      rcases hfpx with e|⟨b,e⟩
      ·rw[e]; exact cO _ _
      ·rw[e] at hofp; exact⟨(nodup_cons.1 hofp.1).2,fun b hb=>hofp.2 b (mem_cons_of_mem _ hb)⟩
     have hh2:∀b ∈ fps2.flatten,Holds σ Γ k2 b:=fun b hb=>by
      obtain⟨k3,hk3,hh⟩:=hhold b (hsub b hb)
      have:k3=k2:=by simpa [bc] using hk3
      rwa [this] at hh
     have hf':=hs.tR (ks:=[k2])
     have hcongr:aJ (look σ.mem) [k2]=aJ lm [k2]:=gN fun j hj=>hmv j hj
     have hfree:∀b ∈ fps2.flatten,∀j B,look (aJ lm [k2]++σ.mem) j=some B->¬ B.mut Γ j b/\b ∉ B.bY Γ j:=fun b hb j B hj=>by
      rw[<-hcongr] at hj
      exact uV hs (mem_singleton.2 rfl) hlive (hh2 b hb) hj
     rw[hcongr] at hf'
     have hkf:look (aJ lm [k2]++σ.mem) k=some (.row e' s vv true l):=by
      rw[a8]
      cases hq:look (aJ lm [k2]) k with
      | none=>exact hk'
      | some B=>obtain⟨q,hq1,hq2⟩:=fM hq; have:=fj hq1; rw[hq2] at this; exact absurd (mem_singleton.1 this) hkk
     obtain⟨fps,hg,hf,hgd,hon⟩:=hf'.mm k _ hkf
     obtain⟨_,B,hB,hbh⟩:=(aX hs hl hm1 hx:aR c σ.mem Γ w _ (a.eval x))
     rw[hk'] at hB; injection hB with hB; subst hB
     have hxe:=hbh.2 rfl
     have hg2:∀b ∈ fps2.flatten,Gd c (aJ lm [k2]++σ.mem) Γ b:=fun b hb=>⟨(ho2.2 b hb).1.gd,fun⟨j,B,hj,hmu⟩=>(hfree b hb j B hj).1 hmu⟩
     have hnm:∀b,Gd c (aJ lm [k2]++σ.mem) Γ b->(Γ.hd k).ownBlock ≠ some b:=fun b hb e=>hb.2 ⟨k,_,hkf,e⟩
     obtain⟨v',w',h1,h2,h3,h4⟩:=pt (P:=P) ty o.type e' i' t.zv hu hi1 hi3 (by rw[hi2,hsz',hss]) (by rw[uB,hsz',hss]) hps hg.1 hu2 hr2 hn2 hc2 (by simp only[maxLen]; exact hb2) hb1 (zero_le _) (fun b hb=>hnm b (hgd b (hf ▸ hb))) (fun b hb=>hnm b (hg2 b hb))
     have hall:∀b ∈ (fps++fps2).flatten,b < w.heap.size/\Gd c (aJ lm [k2]++σ.mem) Γ b:=by
      intro b hb
      rw[flatten_append,mem_append] at hb
      rcases hb with hb|hb
      ·exact⟨hg.lt b hb,hgd b (hf ▸ hb)⟩
      ·exact⟨tV hr2 b hb,hg2 b hb⟩
     have ho1:=hon rfl
     rw[hf] at ho1
     have hh1:∀b ∈ fps.flatten,Holds σ Γ k b:=fun b hb=>⟨_,hk',.inr (by simp only[ay.bY]; rw[hf]; exact hb)⟩
     have hs2:=hf'.uH (ver':=vv+1) (o':=true) hkf h2 h3 (h4.imp id fun h b hb=>by rw[h] at hb; injection hb with hb; omega) (.inl rfl) hall
      (fun _=>by
       refine⟨dy (w:=w) ⟨?_,fun b hb=>?_⟩ fun b hb=>h3.block b (hall b hb).1 fun e=>hnm b (hall b hb).2 e.symm,fun b hb j B hjk hj=>?_⟩
       ·rw[flatten_append,nodup_append]
        refine⟨ho1.1,ho2.1,fun b hb b' hb' e=>?_⟩
        subst e
        exact hkk (sH hs (hh1 b hb) (hh2 b hb'))
       ·rw[flatten_append,mem_append] at hb
        exact hb.elim (ho1.2 b) (ho2.2 b)
       ·rw[flatten_append,mem_append] at hb
        rcases hb with hb|hb
        ·exact hf'.pX k j _ B b hkf hj (Ne.symm hjk) (by simp only[ay.bY]; rw[hf]; exact hb)
        ·exact (hfree b hb j B hj).2)
     refine j9 (hrun a w w' _ _ v' hxe rfl h1) (oH hK' hd hs2 ?_ rfl rfl)
     refine⟨?_,_,aD ..,le_refl _,fun _=>by rw[aC.cI]⟩
     obtain⟨ad',cc',css',e1,_⟩:=j0 h2
     rw[e1]; rfl
    ·have how':(!s.flat && oo && gR lm v)=false:=by simpa using how
     rw[how',Bool.or_false,if_neg ah] at hK
     refine⟨_,hK,fun p hp=>?_,fun σ Γ a w hs hl hm hn hd K' Q hK'=>?_⟩
     ·simp at hp; subst hp; exact .inr mem_cons_self
     have hk':=(hm k mem_cons_self).trans hk
     obtain⟨ad,cc,css,fps2,hu2,hr2,hg2,hn2,hc2⟩:=td hs (aX hs hl hm2 hy) (fun j hj=>hm j (mem_cons_of_mem _ hj)) hdat
     obtain⟨fps,hg,hf,hgd,_⟩:=hs.mm k _ hk'
     obtain⟨_,B,hB,hbh⟩:=(aX hs hl hm1 hx:aR c σ.mem Γ w _ (a.eval x))
     rw[hk'] at hB; injection hB with hB; subst hB
     have hxe:=hbh.2 rfl
     have hnm:∀b,Gd c σ.mem Γ b->(Γ.hd k).ownBlock ≠ some b:=fun b hb e=>hb.2 ⟨k,_,hk',e⟩
     have hsz':=s.bW
     have hps:=s.pos
     obtain⟨v',w',h1,h2,h3,h4⟩:=pt (P:=P) ty o.type e' i' t.zv hu hi1 hi3 (by rw[hi2,hsz',hss]) (by rw[uB,hsz',hss]) hps hg.1 hu2 hr2 hn2 hc2 (by simp only[maxLen]; exact hb2) hb1 (zero_le _) (fun b hb=>hnm b (hgd b (hf ▸ hb))) (fun b hb=>hnm b (hg2 b hb))
     have hall:∀b ∈ (fps++fps2).flatten,b < w.heap.size/\Gd c σ.mem Γ b:=by
      intro b hb
      rw[flatten_append,mem_append] at hb
      rcases hb with hb|hb
      ·exact⟨hg.lt b hb,hgd b (hf ▸ hb)⟩
      ·exact⟨tV hr2 b hb,hg2 b hb⟩
     have hs2:=hs.uH (ver':=vv+1) (o':=s.flat) hk' h2 h3 (h4.imp id fun h b hb=>by rw[h] at hb; injection hb with hb; omega) (.inl rfl) hall
      (fun hfl=>by rw[qt hfl h2]; exact⟨cO _ _,fun b hb=>by cases hb⟩)
     refine j9 (hrun a w w' _ _ v' hxe rfl h1) (oH hK' hd hs2 ?_ rfl rfl)
     refine⟨?_,_,aD ..,le_refl _,fun _=>by rw[aC.cI]⟩
     obtain⟨ad',cc',css',e1,_⟩:=j0 h2
     rw[e1]; rfl
   ·exact h.elim
  ·rename_i t i v ht hi hx hy
   split at h
   ·rename_i d hdat
    split at h
    rotate_left
    ·exact h.elim
    rename_i m hmg
    obtain rfl:=yL hmg
    obtain⟨hb1,hb2,hK⟩:=h
    by_cases how:(!t.flat && gR lm v)=true
    ·rw[how,Bool.or_true,if_pos rfl] at hK
     refine⟨_,hK,fun p hp=>?_,fun σ Γ a w hs hl hm hn hd K' Q hK'=>?_⟩
     ·rcases mem_cons.1 hp with rfl|hp
      ·exact .inl (le_refl _)
      ·exact .inr (fj hp)
     simp only[Bool.and_eq_true,not_eq_true'] at how
     obtain⟨hnf,how⟩:=how
     have hvr:=aX hs hl hm2 hy
     obtain⟨k2,ver2,rfl⟩:∃k2 ver2,v=.row k2 ver2:=by
      cases v with
      | row k2 ver2=>exact⟨k2,ver2,rfl⟩
      | sl _ _=>cases how
      | fx _ _ _=>cases how
      | _=>cases hdat
     have hmv:∀j ∈ [k2],look σ.mem j=lm j:=fun j hj=>hm j hj
     have how':rY σ (.row k2 ver2)=true:=by
      rw[rY,u7 (lm:=lm) (fun k' ver' he=>(by cases he; exact hmv k2 (mem_singleton.2 rfl)))]; exact how
     have hdat':(AV.row k2 ver2).data (look σ.mem)=some ⟨t,m⟩:=by rw[<-hdat]; exact nD fun k' ver' he=>(by cases he; exact hmv k2 (mem_singleton.2 rfl))
     obtain⟨fp,hr,hofp,hhold⟩:=hs.rE (t:=.slice t) (cs:=[.row k2 ver2]) (us:=[a.eval y]) ⟨hvr,trivial⟩ ⟨_,rfl,.inl hdat'⟩ (by simp[how']) (by simp[bc])
     have hlive:=xr how'
     obtain⟨ad,cc,css,fps2,hu2,hr2,hsub,hn2,hc2,hfpx⟩:=tv (p:=t.pos) hr
     have ho2:gx c w fps2.flatten:=by
      rcases hfpx with e|⟨b,e⟩
      ·rw[e]; exact cO _ _
      ·rw[e] at hofp; exact⟨(nodup_cons.1 hofp.1).2,fun b hb=>hofp.2 b (mem_cons_of_mem _ hb)⟩
     have hh2:∀b ∈ fps2.flatten,Holds σ Γ k2 b:=fun b hb=>by
      obtain⟨k3,hk3,hh⟩:=hhold b (hsub b hb)
      have:k3=k2:=by simpa [bc] using hk3
      rwa [this] at hh
     have hf':=hs.tR (ks:=[k2])
     have hcongr:aJ (look σ.mem) [k2]=aJ lm [k2]:=gN fun j hj=>hmv j hj
     have hfree:∀b ∈ fps2.flatten,∀j B,look (aJ lm [k2]++σ.mem) j=some B->¬ B.mut Γ j b/\b ∉ B.bY Γ j:=fun b hb j B hj=>by
      rw[<-hcongr] at hj
      exact uV hs (mem_singleton.2 rfl) hlive (hh2 b hb) hj
     rw[hcongr] at hf'
     have hg2:∀b ∈ fps2.flatten,Gd c (aJ lm [k2]++σ.mem) Γ b:=fun b hb=>⟨(ho2.2 b hb).1.gd,fun⟨j,B,hj,hmu⟩=>(hfree b hb j B hj).1 hmu⟩
     have hxe:a.eval x=_:=(aX hs hl hm1 hx:aR c σ.mem Γ w _ (a.eval x)).1
     obtain⟨i',dd,hi1,hi2,hi3,_,_⟩:=hT _ _ ht
     simp only[kV,hi1,map_some,Option.some.injEq] at hi
     subst hi
     have hsz':=t.bW
     have hps:=t.pos
     have hnone:look (aJ lm [k2]++σ.mem) nx=none:=by
      have hne:nx ≠ k2:=fun e=>by
       have hl2:=hnx nx (le_refl _)
       rw[e] at hl2
       simp only[AV.data,hl2] at hdat
       cases hdat
      rw[a8]
      cases hq:look (aJ lm [k2]) nx with
      | none=>exact hn (nx,_) mem_cons_self (by simpa [AV.rows] using hne)
      | some B=>obtain⟨q,hq1,hq2⟩:=fM hq; have:=fj hq1; rw[hq2] at this; exact absurd (mem_singleton.1 this) hne
     obtain⟨v',w',h1,h2,h3,h4⟩:=pt (P:=P) (A:=t.rp) ty o.type e i' t.zv hu hi1 hi3 (by rw[hi2,hsz']) (by rw[uB,hsz']) hps (FD c.base w e) hu2 hr2 hn2 hc2 (by simp only[maxLen,length_nil]; omega) (by simpa using hb1) hs.hb (fun b hb=>by simp at hb) (fun b hb=>by simp[Value.ownBlock])
     simp only[nil_append] at h2
     have hbel:Below w.heap.size w w':=⟨h3.os,h3.tape,h3.output,h3.size,fun b hb=>h3.block b hb (by simp[Value.ownBlock])⟩
     have hs2:=hf'.newRow (o:=true) hnone hbel h2 (fun b hb=>by
      rcases h4 with h4|h4
      ·rw[h4] at hb; cases hb
      ·rw[h4] at hb; injection hb with hb; omega) (fun b hb=>.inr ⟨tV hr2 b hb,hg2 b hb⟩)
      (fun _=>⟨dy ho2 fun b hb=>hbel.block b (tV hr2 b hb),fun b hb j B hj=>(hfree b hb j B hj).2⟩)
     refine j9 (hrun a w w' _ _ v' hxe rfl h1) (oH hK' hd hs2 ?_ rfl rfl)
     refine⟨?_,_,aD ..,le_refl _,fun _=>by rw[aC.cI]⟩
     obtain⟨ad',cc',css',e1,_⟩:=j0 h2
     rw[e1]; rfl
    ·have how':(!t.flat && gR lm v)=false:=by simpa using how
     rw[how',Bool.or_false,if_neg ah] at hK
     refine⟨_,hK,fun p hp=>?_,fun σ Γ a w hs hl hm hn hd K' Q hK'=>?_⟩
     ·simp at hp; subst hp; exact .inl (le_refl _)
     have hnone:look σ.mem nx=none:=by
      by_cases hin:nx ∈ v.rows
      ·rw[hm nx hin]; exact hnx nx (le_refl _)
      ·exact hn (nx,_) mem_cons_self hin
     obtain⟨ad,cc,css,fps2,hu2,hr2,hg2,hn2,hc2⟩:=td hs (aX hs hl hm2 hy) hm hdat
     have hxe:a.eval x=_:=(aX hs hl hm1 hx:aR c σ.mem Γ w _ (a.eval x)).1
     obtain⟨i',dd,hi1,hi2,hi3,_,_⟩:=hT _ _ ht
     simp only[kV,hi1,map_some,Option.some.injEq] at hi
     subst hi
     have hsz':=t.bW
     have hps:=t.pos
     obtain⟨v',w',h1,h2,h3,h4⟩:=pt (P:=P) (A:=t.rp) ty o.type e i' t.zv hu hi1 hi3 (by rw[hi2,hsz']) (by rw[uB,hsz']) hps (FD c.base w e) hu2 hr2 hn2 hc2 (by simp only[maxLen,length_nil]; omega) (by simpa using hb1) hs.hb (fun b hb=>by simp at hb) (fun b hb=>by simp[Value.ownBlock])
     simp only[nil_append] at h2
     have hbel:Below w.heap.size w w':=⟨h3.os,h3.tape,h3.output,h3.size,fun b hb=>h3.block b hb (by simp[Value.ownBlock])⟩
     have hs2:=hs.newRow (o:=t.flat) hnone hbel h2 (fun b hb=>by
      rcases h4 with h4|h4
      ·rw[h4] at hb; cases hb
      ·rw[h4] at hb; injection hb with hb; omega) (fun b hb=>.inr ⟨tV hr2 b hb,hg2 b hb⟩)
      (fun hfl=>by rw[qt hfl h2]; exact⟨cO _ _,fun b hb=>by cases hb⟩)
     refine j9 (hrun a w w' _ _ v' hxe rfl h1) (oH hK' hd hs2 ?_ rfl rfl)
     refine⟨?_,_,aD ..,le_refl _,fun _=>by rw[aC.cI]⟩
     obtain⟨ad',cc',css',e1,_⟩:=j0 h2
     rw[e1]; rfl
   ·exact h.elim
  ·exact h.elim
 ·exact h.elim
theorem wi (z:Array Value) (n i:Nat) (h:i < n):(madeCells z n)[i]? = some (z[i % z.size]!):=by simp[madeCells,h]
theorem Ey {α:Type} (cs:List α) (n i:Nat) (h0:0 < cs.length) (h:i < n * cs.length):(replicate n cs).flatten[i]? = cs[i % cs.length]?:=by
 induction n generalizing i with
 | zero=>simp at h
 | succ n ih =>
  rw[List.replicate_succ,flatten_cons]
  rcases lt_or_ge i cs.length with hi|hi
  ·rw[getElem?_append_left hi,Nat.mod_eq_of_lt hi]
  ·rw[succ_mul] at h
   rw[getElem?_append_right hi,ih _ J,Nat.mod_eq_sub_mod hi]
theorem Gy (hT:bD P T) {ty:TypeId} {x y:Operand} (ho:o.op=.makeSlice ty x y) (h:qF P T lt nx K ty x y):∃e,K e/\aT P c lt lm nx o e:=by
 unfold qF at h
 split at h
 ·rename_i e hu
  split at h
  ·rename_i t i n m ht hi hx hy
   obtain⟨h0,hnm,hby,hK⟩:=h
   split at hK
   ·obtain⟨rfl,hK⟩:=hK
    refine⟨_,hK,aT.one (.inl (le_refl _)) fun σ Γ a w hs hl _ hn=>?_⟩
    obtain⟨e1,_,o1⟩:=(aX hs hl (by simp[ho,Op.operands]) hx:aR c σ.mem Γ w _ (a.eval x))
    obtain⟨e2,_,o2⟩:=(aX hs hl (by simp[ho,Op.operands]) hy:aR c σ.mem Γ w _ (a.eval y))
    obtain⟨i',dd,hi1,hi2,hi3,_,_⟩:=hT _ _ ht
    simp only[kV,hi1,map_some,Option.some.injEq] at hi
    subst hi
    have hrun:=run_make (P:=P) w ty e i' (Ty.slice .int).zv hu hi1 hi3 .i64 .i64 n n h0 hnm hby o2.2
    rw[hi2] at hrun
    have hml:(madeCells (Ty.slice .int).zv.cells (n.toNat * (Ty.slice .int).size)).toList=replicate n.toNat (.slice none 0 0):=by
     apply ext_getElem?
     intro q
     rw[getElem?_toList,getElem?_replicate]
     split
     ·rw[wi _ _ _ (by show q < n.toNat * 1; omega)]
      show some ((Ty.slice .int).zv.cells[q % (Ty.slice .int).zv.cells.size]!)=_
      rw[show (Ty.slice .int).zv.cells=#[.slice none 0 0] from rfl]
      simp[Nat.mod_one]
     ·exact Array.getElem?_eq_none (by rw[size_madeCells]; show n.toNat * 1<=q; omega)
    have hbx:=hs.aaq (lW w (.cells (madeCells (Ty.slice .int).zv.cells (n.toNat * (Ty.slice .int).size)) e (0,0))) (k:=nx) (hn ah) (b:=w.heap.size) (le_refl _) EF (cs:=replicate n.toNat (.sc (.slice none 0 0))) (fun _=>by
     rw[hml]
     have key:∀(q:Nat) {c:Cx} {M:Mm} {Γ:aC} {w:World},aA (aQ c M Γ w) (replicate q (.sc (.slice none 0 0))) (replicate q (.slice none 0 0)):=by
      intro q
      induction q with
      | zero=>intros; trivial
      | succ q ih=>intros; exact⟨⟨rfl,rfl,trivial⟩,ih⟩
     exact key _)
    refine⟨.slice (some ⟨w.heap.size,0,none⟩) n.toNat n.toNat,_,_,.inl (by simp only[execOp,ho,e1,e2,Sem.run_bind,hrun,Result.andThen_ok,Sem.run_pure]),hbx,⟨rfl,_,aD ..,by show _=Value.slice (some ⟨(Γ.iZ nx w.heap.size).β nx,0,none⟩) _ _; rw[aC.iJ],by simp only[maxLen]; have:=o2.2; omega⟩⟩
   refine⟨_,hK,aT.one (.inl (le_refl _)) fun σ Γ a w hs hl _ hn=>?_⟩
   obtain⟨e1,_,o1⟩:=(aX hs hl (by simp[ho,Op.operands]) hx:aR c σ.mem Γ w _ (a.eval x))
   obtain⟨e2,_,o2⟩:=(aX hs hl (by simp[ho,Op.operands]) hy:aR c σ.mem Γ w _ (a.eval y))
   obtain⟨i',dd,hi1,hi2,hi3,_,_⟩:=hT _ _ ht
   simp only[kV,hi1,map_some,Option.some.injEq] at hi
   subst hi
   have hrun:=run_make (P:=P) w ty e i' t.zv hu hi1 hi3 .i64 .i64 n m h0 hnm hby o2.2
   rw[hi2] at hrun
   have hp0:=t.pos
   rw[t.bW] at hp0
   have hzl:=RS t
   have hmul:n.toNat * t.size<=m.toNat * t.size:=mul_le_mul_right _ J
   have hcells:madeCells t.zv.cells (m.toNat * t.size)=((replicate n.toNat t.zc).flatten++(madeCells t.zv.cells (m.toNat * t.size)).toList.drop (n.toNat * t.size)).toArray:=by
    apply toList_inj.1
    rw[toList_toArray]
    apply ext_getElem?
    intro q
    have hfl:(replicate n.toNat t.zc).flatten.length=n.toNat * t.size:=by simp[hzl]
    rcases lt_or_ge q (n.toNat * t.size) with hq|hq
    ·rw[getElem?_append_left J,Ey _ _ _ J (by rw[hzl]; exact hq),getElem?_toList,wi _ _ _ J,sb,hzl]
     have:q % t.size < t.zc.length:=by rw[hzl]; exact mod_lt _ hp0
     simp[hzl,getElem?_eq_getElem this,getElem!_pos,this]
    ·rw[getElem?_append_right J,hfl,getElem?_drop]
     congr 1; omega
   have hrw:eZ t.rp w (replicate n.toNat t.zero) (replicate n.toNat t.zc) (replicate n.toNat []):=by
    refine⟨by simp,by simp,fun j x hx=>?_⟩
    have hj:j < n.toNat:=by simpa using (List.getElem?_eq_some_iff.1 hx).1
    rw[getElem?_replicate,if_pos hj] at hx
    injection hx with hx
    subst hx
    exact⟨t.zc,[],by rw[getElem?_replicate,if_pos hj],by rw[getElem?_replicate,if_pos hj],B6 w t⟩
   have hgf:=Fj (base:=c.base) (e:=e) hs.hb hrw (by simp only[maxLen,List.length_replicate]; have:=o2.2; omega) ((madeCells t.zv.cells (m.toNat * t.size)).toList.drop (n.toNat * t.size)) m.toNat (by simp; omega) (by simp only[maxLen]; have:=o2.2; omega)
    (by simp only[List.length_replicate,length_drop,length_toList,size_madeCells]; rw[t.bW]; omega)
   rw[<-hcells,List.length_replicate] at hgf
   have hfn:(replicate n.toNat ([]:List Nat)).flatten=[]:=by simp
   refine⟨.slice (some ⟨w.heap.size,0,none⟩) n.toNat m.toNat,_,_,.inl (by simp only[execOp,ho,e1,e2,Sem.run_bind,hrun,Result.andThen_ok,Sem.run_pure]),hs.newRow (o:=true) (hn ah) (lW w _) hgf (fun b hb=>by injection hb with hb; subst hb; exact le_refl _) (fun b hb=>by rw[hfn] at hb; cases hb)
    (fun _=>by rw[hfn]; exact⟨cO _ _,fun b hb=>by cases hb⟩),⟨rfl,_,aD ..,le_refl _,fun _=>by rw[aC.cI]⟩⟩
  ·exact h.elim
 ·exact h.elim
theorem LM {σ:St} {Γ:aC} {a:Act} {w:World} (hs:aH c σ Γ a w) {x:Option Operand} {z n:Int} (hl:∀y,x=some y->∀t,y=.tmp t->look σ.tmps t=lt t) (h:xN lt x z=some n):(x=none/\n=z)\/∃y,x=some y/\a.eval y=.int .i64 n:=by
 cases x with
 | none=>injection h with h; exact .inl ⟨rfl,h.symm⟩
 | some y =>
  simp only[xN] at h
  split at h
  ·rename_i m hm
   injection h with h
   subst h
   exact .inr ⟨y,rfl,(ll hs (hl y rfl) hm:aR c σ.mem Γ w _ (a.eval y)).1⟩
  ·cases h
theorem XB {t:Ty} {w:World} {ad:Option Addr} {cc:Nat} {l:List t.den} {fp:List Nat} (h:(Rp.slice t.rp t.pos).rep w [.slice ad l.length cc] l fp) {i j:Nat} (hij:i<=j) (hj:j<=l.length) :
  ∃fp',(Rp.slice t.rp t.pos).rep w [.slice (if cc=i then ad else ad.map (·.add (i * t.rp.size))) (j - i) (cc - i)] ((l.take j).drop i) fp'/\∀b ∈ fp',b ∈ fp:=by
 obtain⟨ad',cc',h1,h2,h3,h4⟩:=h
 injection h1 with h1
 injection h1 with ha _ hcc
 subst ha hcc
 have hlen:((l.take j).drop i).length=j - i:=by rw[length_drop,length_take]; omega
 by_cases h0:j - i=0
 ·have:(l.take j).drop i=[]:=List.eq_nil_of_length_eq_zero J
  rw[this]
  exact⟨[],⟨_,_,by rw[h0]; rfl,by simp,J,.inl ⟨rfl,rfl⟩⟩,fun b hb=>by cases hb⟩
 ·rcases h4 with ⟨rfl,_⟩|⟨b,off,fps,hl,ha,hfp,hfl,he⟩
  ·simp at hj; omega
  ·have hne:cc ≠ i:=J
   rw[if_neg hne,ha]
   refine⟨b :: ((fps.take j).drop i).flatten,⟨some ⟨b,off+i * t.rp.size,none⟩,cc - i,by rw[hlen]; simp[ew],J,J,.inr ⟨b,off+i * t.rp.size,(fps.take j).drop i,?_,rfl,rfl,by rw[hlen,length_drop,length_take]; omega,fun q x hx=>?_⟩⟩,fun b' hb'=>?_⟩
   ·intro hn; rw[hn] at hlen; simp at hlen; omega
   ·have hq:=(List.getElem?_eq_some_iff.1 hx).1
    rw[hlen] at hq
    rw[getElem?_drop,getElem?_take,if_pos J] at hx
    obtain⟨f,cs,hf,hr,hc⟩:=he _ x hx
    refine⟨f,cs,by rw[getElem?_drop,getElem?_take,if_pos J]; exact hf,hr,fun p v hv=>?_⟩
    have:=hc p v hv
    rw[add_mul] at this
    rw[show off+i * t.rp.size+q * t.rp.size+p=off+(i * t.rp.size+q * t.rp.size)+p from J]
    exact this
   ·rw[hfp]
    rcases mem_cons.1 hb' with rfl|hb'
    ·exact mem_cons_self
    ·obtain⟨f,hf,hbf⟩:=mem_flatten.1 hb'
     exact mem_cons_of_mem _ (mem_flatten.2 ⟨f,mem_of_mem_take (mem_of_mem_drop hf),hbf⟩)
theorem T0 {v:AV} {d:sF} {M:Mm} (hd:v.data lm=some d) (hm:∀k ∈ v.rows,look M k=lm k):v.data (look (aJ lm v.rows++M))=some d:=by
 cases v with
 | sl t l=>exact hd
 | fx _ t l=>exact hd
 | row k ver =>
  have hk:=hm k (by simp[AV.rows])
  simp only[AV.rows,AV.data,aJ] at hd ⊢
  cases hl:lm k with
  | none=>rw[hl] at hd; cases hd
  | some B =>
   rw[hl] at hd
   simp only[Option.bind_some] at hd ⊢
   cases B with
   | row e t v o l =>
    simp only[ay.fz,nil_append,List.cons_append,aD,Option.bind_some,ay.data] at hd ⊢
    exact hd
   | cU t l =>
    simp only[ay.fz,nil_append,List.cons_append,aD,Option.bind_some,ay.data] at hd ⊢
    split at hd
    ·rename_i h0; rw[if_pos h0.symm]; exact hd
    ·cases hd
   | jH t v l =>
    simp only[ay.fz,nil_append,hk,hl,Option.bind_some]
    exact hd
   | _=>cases hd
 | _=>cases hd
theorem sJ {ty e:TypeId} {x:Operand} {lo hi:Option Operand} {a:Act} {w:World} {σ:St} {Γ:aC} {s t:Ty} (hT:tG P e t) (hss:t.size=s.size) (ho:o.op=.slice ty x lo hi none) (hu:P.underlying ty=some (.slice e)) (hs:aH c σ Γ a w) (hl:∀t ∈ kG o,look σ.tmps t=lt t)
  {ad:Option Addr} {n cc:Nat} (hva:a.eval x=.slice ad n cc) (hlc:n<=cc) {za zb:Int} (hza:xN lt lo 0=some za) (hzb:xN lt hi n=some zb) (h0:0<=za) (hab:za<=zb) (hbl:zb<=n) :
  (execOp a.eval o).run P w=.ok (.value (.slice (if cc=za.toNat then ad else ad.map (·.add (za.toNat * s.rp.size))) (zb.toNat - za.toNat) (cc - za.toNat))) w:=by
 have hsz:=hT.sizeOf w
 have hlo:=LM hs (x:=lo) (fun y hy t e=>hl t (fX (by simp[ho,Op.operands,hy]) e)) hza
 have hhi:=LM hs (x:=hi) (fun y hy t e=>hl t (fX (by simp[ho,Op.operands,hy]) e)) hzb
 have hb1:zb<=(cc:Int):=J
 have hb2:zb.toNat<=n:=J
 have hsz':s.rp.size=t.size:=by rw[s.bW,hss]
 have c1:∀code,(Instr.sliceBound (.int .i64 zb) cc code).run P w=.ok zb.toNat w:=fun code=>run_sliceBound (P:=P) (w:=w) .i64 zb cc code J hb1
 have c2:∀code,(Instr.sliceBound (.int .i64 za) zb.toNat code).run P w=.ok za.toNat w:=fun code=>run_sliceBound (P:=P) (w:=w) .i64 za _ code h0 J
 have key:∀(ol oh:Option Value),(ol=none/\za=0\/ol=some (.int .i64 za))->(oh=none/\zb=n\/oh=some (.int .i64 zb))->(Instr.sliceBounds true n cc ol oh none).run P w=.ok (za.toNat,zb.toNat,cc) w:=by
  intro ol oh h1 h2
  have hh:zb=n->(n:Int).toNat=zb.toNat:=fun h=>by rw[h]
  rcases h1 with ⟨rfl,rfl⟩|rfl<;>rcases h2 with ⟨rfl,hz⟩|rfl
  ·simp[Instr.sliceBounds,hz]
  ·simp[Instr.sliceBounds,c1]
  ·have hz2:n=zb.toNat:=J
   simp only[Instr.sliceBounds,Sem.run_bind,Sem.run_pure,Result.andThen_ok]
   rw[hz2]
   simp[c2]
  ·simp[Instr.sliceBounds,c1,c2]
 have hkk:=key (lo.map a.eval) (hi.map a.eval) (by rcases hlo with ⟨rfl,h⟩|⟨y,rfl,h⟩<;>simp_all) (by rcases hhi with ⟨rfl,h⟩|⟨y,rfl,h⟩<;>simp_all)
 simp only[execOp,ho,hva,Instr.sliceAt,Sem.run_bind,run_underlying hu,Result.andThen_ok,Instr.slice,Option.map_none,hkk,hsz,hsz',Sem.run_pure]
theorem O1 {t:Ty} {base:Nat} {w:World} {e:TypeId} {ad:Option Addr} {cc m:Nat} {l:List t.den} {fps:List (List Nat)} (h:bh t.rp base w e (.slice ad l.length cc) l fps) (hm:m<=l.length) :
  bh t.rp base w e (.slice ad m cc) (l.take m) (fps.take m):=by
 obtain⟨xs,⟨h1,h2⟩,h3,h4⟩:=h
 have hmul:m * t.rp.size<=l.length * t.rp.size:=mul_le_mul_right _ hm
 refine⟨xs.take (m * t.rp.size),⟨by rw[length_take,length_take]; rw[min_eq_left hm]; omega,?_⟩,by rw[length_take,length_take,h3],fun i x hx=>?_⟩
 ·rw[length_take,min_eq_left hm]
  rcases h2 with ⟨h2,h5⟩|⟨g,cap,cur,e1,hb,hg,hc,hcm,hcs,htk⟩
  ·injection h2 with e1 e2 e3
   subst e1 e3
   have:m=0:=J
   subst this
   exact .inl ⟨rfl,rfl⟩
  ·injection e1 with e1 e2 e3
   subst e1 e3
   exact .inr ⟨g,cc,cur,rfl,hb,hg,J,hcm,hcs,by rw[<-htk,List.take_take,min_eq_left hmul]⟩
 ·rw[getElem?_take] at hx
  split at hx
  ·rename_i him
   obtain⟨f,cs,hf,hr,hc⟩:=h4 i x hx
   refine⟨f,cs,by rw[getElem?_take,if_pos him]; exact hf,hr,fun j d hd=>?_⟩
   have hj:j < t.rp.size:=by have:=t.rp.len hr; have:=(List.getElem?_eq_some_iff.1 hd).1; omega
   have:(i+1) * t.rp.size<=m * t.rp.size:=mul_le_mul_right _ him
   rw[getElem?_take,if_pos (by rw[add_mul] at this; omega)]
   exact hc j d hd
  ·cases hx
theorem Sf (hT:bD P T) {ty:TypeId} {x:Operand} {lo hi mx:Option Operand} (ho:o.op=.slice ty x lo hi mx) (h:BW P T lt lm K ty x lo hi mx):∃e,K e/\aT P c lt lm nx o e:=by
 unfold BW at h
 split at h
 ·rename_i e v hu hx
  split at h
  ·rename_i t s l ht hdat
   split at h
   ·rename_i za zb hza hzb
    obtain⟨rfl,hss,h0,hab,hbl,hK⟩:=h
    have hK':K ⟨.sl s ((l.take zb.toNat).drop za.toNat),aJ lm v.rows,v.rows⟩\/∃(k ver:Nat) (e:TypeId) (o:Bool),v=.row k ver/\za=0/\lm k=some (.row e s ver o l)/\K ⟨.row k (ver+1),[(k,.row e s (ver+1) s.flat (l.take zb.toNat))],[k]⟩:=by
     cases v with
     | row k ver =>
      rcases hK with hK|⟨hz,e,o,h1,h2⟩
      ·exact .inl hK
      ·exact .inr ⟨k,ver,e,o,rfl,hz,h1,h2⟩
     | _=>exact .inl hK
    clear hK
    rcases hK' with hK|⟨k,ver,te,oo,rfl,rfl,hk,hK⟩
    ·refine⟨_,hK,fun p hp=>.inr (fj hp),fun σ Γ a w hs hl hm hn hd K' Q hK'=>?_⟩
     have hf':=hs.tR (ks:=v.rows)
     have hcongr:aJ (look σ.mem) v.rows=aJ lm v.rows:=gN fun k hk=>hm k hk
     rw[hcongr] at hf'
     have hv:=aX hf' hl (x:=x) (by simp[ho,Op.operands]) hx
     have hd':v.data (look (aJ lm v.rows++σ.mem))=some ⟨s,l⟩:=T0 hdat hm
     obtain⟨fp,hr,_,hgd⟩:=hf'.rK (tZ hv hdat) hd'
     obtain⟨ad,cc,hva,hlc,_⟩:=oU hr
     rw[hva] at hr
     obtain⟨fp',hr',hsub⟩:=XB hr (i:=za.toNat) (j:=zb.toNat) J J
     have hrun:=sJ (s:=s) (hT e t ht) hss ho hu hs hl hva hlc hza hzb h0 hab hbl
     refine j9 hrun (oH hK' hd hf' ?_ rfl rfl)
     refine⟨fp',hr',fun b hb=>hgd (fun k ver e e' t' v' o' l' hk=>?_) b (hsub b hb)⟩
     subst e
     rw[<-hcongr] at hk
     exact (pA hk).1 (by simp[AV.rows])
    ·refine⟨_,hK,fun p hp=>?_,fun σ Γ a w hs hl hm hn hd K' Q hK'=>?_⟩
     ·rw[mem_singleton] at hp; subst hp; exact .inr (mem_singleton.2 rfl)
     have hk':look σ.mem k=some (.row te s ver oo l):=(hm k (mem_singleton.2 rfl)).trans hk
     obtain⟨h1,B,hB,hh⟩:=(aX hs hl (x:=x) (by simp[ho,Op.operands]) hx:aR c σ.mem Γ w (.row k ver) (a.eval x))
     rw[hk'] at hB; injection hB with hB; subst hB
     have hu2:a.eval x=Γ.hd k:=hh.2 rfl
     obtain⟨fps,hg,hf,hgds,_⟩:=hs.mm k _ hk'
     have hsh:∃ad cc,Γ.hd k=.slice ad l.length cc/\l.length<=cc:=by
      obtain⟨xs,⟨_,h2⟩,_⟩:=hg.1
      rcases h2 with ⟨h2,h5⟩|⟨g,cap,cur,e1,hb,hg,hc,_⟩
      ·exact⟨none,0,by rw[h2,h5],J⟩
      ·exact⟨_,cap,e1,hc⟩
     obtain⟨ad,cc,hva,hlc⟩:=hsh
     rw[hva] at hu2
     have hrun:=sJ (s:=s) (hT e t ht) hss ho hu hs hl hu2 hlc hza hzb (Int.le_refl _) hab hbl
     have he:(if cc=(0:Int).toNat then ad else ad.map (·.add ((0:Int).toNat * s.rp.size)))=ad:=by
      split
      ·rfl
      ·cases ad with
       | none=>rfl
       | some q=>simp[Addr.add]
     rw[he,show zb.toNat - (0:Int).toNat=zb.toNat by simp,show cc - (0:Int).toNat=cc by simp] at hrun
     have hg2:=hg.1
     rw[hva] at hg2
     have hgt:=O1 hg2 (m:=zb.toNat) J
     have hs2:=hs.uH (o':=s.flat) (ver':=ver+1) hk' hgt (w':=w) ⟨rfl,rfl,rfl,le_refl _,fun _ _ _=>rfl⟩ (.inl (by rw[hva]; cases ad<;>rfl)) (.inl rfl)
      (fun b hb=>by
       obtain⟨f,hfm,hbf⟩:=mem_flatten.1 hb
       have hb':b ∈ fps.flatten:=mem_flatten.2 ⟨f,mem_of_mem_take hfm,hbf⟩
       exact⟨hg.lt b hb',hgds b (hf ▸ hb')⟩)
      (fun hfl=>by rw[qt hfl hgt]; exact⟨cO _ _,fun b hb=>by cases hb⟩)
     refine j9 hrun (oH hK' hd hs2 ⟨rfl,_,aD ..,le_refl _,fun _=>by rw[aC.cI]⟩ rfl rfl)
   ·exact h.elim
  ·exact h.elim
 ·exact h.elim
theorem Si {t:Ty} {base:Nat} {w:World} {e:TypeId} {g cap:Nat} {l:List t.den} {fps:List (List Nat)} (h:bh t.rp base w e (.slice (some ⟨g,0,none⟩) l.length cap) l fps) {i:Nat} (hi:i < l.length) {x:t.den} {cs:List Value} {f:List Nat} (hr:t.rp.rep w cs x f)
  (hf:∀b ∈ f,b ≠ g) (hfs:∀b ∈ fps.flatten,b ≠ g):bh t.rp base (putCells w g (i * t.rp.size) cs) e (.slice (some ⟨g,0,none⟩) l.length cap) (l.set i x) (fps.set i f):=by
 obtain⟨xs,ho,hfl,he⟩:=h
 obtain⟨hxl,h2⟩:=ho
 rcases h2 with ⟨h2,_⟩|⟨g',cap',cur,hv,hbg,hg,h1',h2',h3',h4'⟩
 ·cases h2
 injection hv with hv _ hcap
 injection hv with hv; injection hv with hv
 subst hv hcap
 have hcl:=t.rp.len hr
 have hmul:(i+1) * t.rp.size<=l.length * t.rp.size:=mul_le_mul_right _ hi
 have hmul2:l.length * t.rp.size<=cap * t.rp.size:=mul_le_mul_right _ h1'
 have hs1:(i+1) * t.rp.size=i * t.rp.size+t.rp.size:=succ_mul _ _
 obtain⟨cur',g1,g2,g3,g4⟩:=xc g e cs w (i * t.rp.size) cur hg J
 have hoth:∀b,b ≠ g->(putCells w g (i * t.rp.size) cs).heap[b]? = w.heap[b]?:=fun b hb=>lr g cs w _ b hb
 refine⟨cur'.toList.take (l.length * t.rp.size),⟨by rw[length_take,length_set,show cur'.toList.length=cur'.size from length_toList,g2,h3']; exact min_eq_left hmul2,.inr ⟨g,cap,cur',by rw[length_set],hbg,g1,by rw[length_set]; exact h1',h2',g2.trans h3',by rw[length_set]⟩⟩,by simp[hfl],fun j y hy=>?_⟩
 by_cases hij:i=j
 ·subst hij
  rw[List.getElem?_set_self hi] at hy
  injection hy with hy
  subst hy
  refine⟨f,cs,by rw[List.getElem?_set_self J],t.rp.frame hr fun b hb=>hoth b (hf b hb),fun q d hd=>?_⟩
  have hq:=(List.getElem?_eq_some_iff.1 hd).1
  rw[getElem?_take,if_pos J,getElem?_toList]
  exact g3 q d hd
 ·rw[List.getElem?_set_ne hij] at hy
  obtain⟨f',cs',hf',hr',hc'⟩:=he j y hy
  have hj:=(List.getElem?_eq_some_iff.1 hy).1
  refine⟨f',cs',by rw[List.getElem?_set_ne hij]; exact hf',t.rp.frame hr' fun b hb=>hoth b (hfs b (mem_flatten.2 ⟨f',List.mem_of_getElem? hf',hb⟩)),fun q d hd=>?_⟩
  have hq:q < t.rp.size:=by rw[<-t.rp.len hr']; exact (List.getElem?_eq_some_iff.1 hd).1
  have hmj:(j+1) * t.rp.size<=l.length * t.rp.size:=mul_le_mul_right _ hj
  have hsj:(j+1) * t.rp.size=j * t.rp.size+t.rp.size:=succ_mul _ _
  have:=hc' q d hd
  rw[<-h4',getElem?_take,if_pos J,getElem?_toList] at this
  rw[getElem?_take,if_pos J,getElem?_toList,g4 _ ?_]
  ·exact this
  ·rcases Nat.lt_or_gt_of_ne hij with hlt|hlt
   ·have:=mul_le_mul_right t.rp.size (show i+1<=j from hlt); omega
   ·have:=mul_le_mul_right t.rp.size (show j+1<=i from hlt); omega
theorem F5 {fp:List Nat}:∀{fps:List (List Nat)} {i:Nat},fps.flatten.Nodup->fp.Nodup->(∀b ∈ fp,b ∉ fps.flatten)->(fps.set i fp).flatten.Nodup
 | [],_,_,_,_=>by simp
 | f :: fps,0,h,hf,hd=>by
  rw[flatten_cons,nodup_append] at h
  rw[List.set_cons_zero,flatten_cons,nodup_append]
  exact⟨hf,h.2.1,fun b hb b' hb' e=>hd b hb (by rw[flatten_cons,mem_append,e]; exact .inr hb')⟩
 | f :: fps,i+1,h,hf,hd=>by
  rw[flatten_cons,nodup_append] at h
  rw[List.set_cons_succ,flatten_cons,nodup_append]
  refine⟨h.1,F5 h.2.1 hf fun b hb hb'=>hd b hb (by rw[flatten_cons,mem_append]; exact .inr hb'),fun b hb b' hb' e=>?_⟩
  subst e
  obtain⟨g,hg,hbg⟩:=mem_flatten.1 hb'
  rcases List.mem_or_eq_of_mem_set hg with hg|rfl
  ·exact h.2.2 b hb b (mem_flatten.2 ⟨g,hg,hbg⟩) rfl
  ·exact hd b hbg (by rw[flatten_cons,mem_append]; exact .inl hb)
theorem IX (hT:bD P T) {ty:TypeId} {x y:Operand} (ho:o.op=.store ty x y) (h:sw T lt lm K ty x y):∃e,K e/\aT P c lt lm nx o e:=by
 unfold sw at h
 split at h
 ·rename_i t k ver i off v ht hx hy
  split at h
  ·rename_i e s vv oo l hk
   obtain⟨rfl,rfl,hss,hi,hok,hkv,h⟩:=h
   split at h
   rotate_left
   ·exact h.elim
   rename_i x' hx'
   have his:=IN hx'
   have hK:=h
   refine⟨_,hK,fun p hp=>?_,fun σ Γ a w hs hl hm hn hd K' Q hK'=>?_⟩
   ·rcases mem_cons.1 hp with rfl|hp
    ·exact .inr mem_cons_self
    ·exact .inr (mem_cons_of_mem _ (fj hp))
   have hmr:∀j ∈ v.rows,look σ.mem j=lm j:=fun j hj=>hm j (mem_cons_of_mem _ hj)
   have hf':=hs.tR (ks:=v.rows)
   have hcongr:aJ (look σ.mem) v.rows=aJ lm v.rows:=gN fun k hk=>hmr k hk
   rw[hcongr] at hf'
   have hk0:=(hm k mem_cons_self).trans hk
   have hk':look (aJ lm v.rows++σ.mem) k=some (.row e s vv oo l):=by
    have:look (aJ lm v.rows) k=none:=by
     cases hq:look (aJ lm v.rows) k with
     | none=>rfl
     | some B=>obtain⟨q,hq1,hq2⟩:=fM hq; exact absurd (hq2 ▸ fj hq1) hkv
    rw[a8,this,hk0]; rfl
   have hvr:=aX hf' hl (x:=y) (by simp[ho,Op.operands]) hy
   have hvc:=hvr.cells hok
   have hrows:∀k' ver',AV.row k' ver' ∈ cellsOf v->k' ∈ v.rows:=by
    intro k' ver' hkk
    cases v with
    | agg cs=>exact nw hkk
    | row k2 v2 =>
     have:AV.row k' ver'=.row k2 v2:=mem_singleton.1 hkk
     injection this with e1 e2
     simp[AV.rows,e1]
    | _=>have:=mem_singleton.1 hkk; cases this
   have his':Is (look (aJ lm v.rows++σ.mem)) s x' (cellsOf v):=by
    refine iw (fun j hj=>?_) his
    obtain⟨q,hq1,hq2⟩:=mem_flatMap.1 hj
    have hjr:j ∈ v.rows:=by
     cases q<;>simp at hq2
     subst hq2
     exact hrows _ _ hq1
    show look (aJ lm v.rows++σ.mem) j=(look (aJ lm v.rows) j).or (lm j)
    rw[a8,hmr j hjr]
   have hcore:∃fp,s.rp.rep w (a.eval y).cells.toList x' fp/\(∀b ∈ fp,Gd c (aJ lm v.rows++σ.mem) Γ b) ∧
     (lK lm [v]=true->gx c w fp/\∀b ∈ fp,∀j B,look (aJ lm v.rows++σ.mem) j=some B->b ∉ B.bY Γ j):=by
    by_cases hov:lK lm [v]=true
    ·have hc0:=(aX hs hl (x:=y) (by simp[ho,Op.operands]) hy:aR c σ.mem Γ w v (a.eval y)).cells hok
     have hovL:∀u ∈ cellsOf v,gR lm u=true:=by
      simp only[lK,Bool.and_eq_true] at hov
      exact fun u hu=>all_eq_true.1 (all_eq_true.1 hov.1 v ah) u hu
     rw[<-Bv (lm:=lm) (lm':=look σ.mem) (by simp[hok]) (fun k hk=>hmr k (by simpa using hk))] at hov
     have hov2:=hov
     simp only[lK,Bool.and_eq_true,decide_eq_true_eq,all_cons,all_nil,Bool.and_true,flatMap_cons,List.flatMap_nil,append_nil] at hov2
     have hi1:Is (look σ.mem) s x' (cellsOf v):=iw (fun j hj=>by
       rw[qI hok] at hj
       exact hmr j hj) (zh (fun u hu=>(I8 lm _ false u (P2 (hovL u hu))).symm) his)
     obtain⟨fp,r1,r2,r3⟩:=Bu hs hc0 hi1 hov2.1 hov2.2
     have hfree:∀b ∈ fp,∀j B,look (aJ lm v.rows++σ.mem) j=some B->¬ B.mut Γ j b/\b ∉ B.bY Γ j:=by
      intro b hb j B hj
      obtain⟨k,hk,hh,hlv⟩:=r3 b hb
      rw[qI hok] at hk
      rw[<-hcongr] at hj
      exact uV hs hk hlv hh hj
     exact⟨fp,r1,fun b hb=>⟨(r2.2 b hb).1.gd,fun⟨j,B,hj,hmu⟩=>(hfree b hb j B hj).1 hmu⟩,fun _=>⟨r2,fun b hb j B hj=>(hfree b hb j B hj).2⟩⟩
    ·obtain⟨fp,hr,_,hgd⟩:=hf'.j7 hvc his'
     have hgd:=hgd fun k' ver' hkk e t v' o' l' hrow=>by
      rw[<-hcongr] at hrow
      exact (pA hrow).1 (hrows k' ver' hkk)
     exact⟨fp,hr,hgd,fun h=>absurd h hov⟩
   obtain⟨fp,hr,hgd,hown⟩:=hcore
   obtain⟨fps,hg,hf,hgds,hog⟩:=hf'.mm k _ hk'
   obtain⟨_,B,hB,hp⟩:=(aX hf' hl (x:=x) (by simp[ho,Op.operands]) hx:aR c _ Γ w _ (a.eval x))
   rw[hk'] at hB; injection hB with hB; subst hB
   obtain⟨_,hp⟩:=hp e s vv oo l rfl
   obtain⟨g,n,cap,hhd,hpt⟩:=hp rfl
   have hnl:n=l.length:=by
    obtain⟨_,_,_,e1,_⟩:=j0 hg.1
    rw[hhd] at e1; injection e1
   subst hnl
   rw[hhd] at hg
   have hmutg:iB (aJ lm v.rows++σ.mem) Γ g:=⟨k,_,hk',by show (Γ.hd k).ownBlock=some g; rw[hhd]; rfl⟩
   have hng:∀b,Gd c (aJ lm v.rows++σ.mem) Γ b->b ≠ g:=fun b hb e=>hb.2 (e ▸ hmutg)
   have hset:=Si hg.1 hi hr (fun b hb=>hng b (hgd b hb)) (fun b hb=>hng b (hgds b (hf ▸ hb)))
   have hgr:w.grownBy (putCells w g (i * s.rp.size) (a.eval y).cells.toList) (Γ.hd k).ownBlock:=by
    have hb:=tO (B:=0) (w0:=w) g (a.eval y).cells.toList w (i * s.rp.size) (Below.refl _ _) (zero_le _)
    exact⟨hb.os,hb.tape,hb.output,hb.size,fun b _ hne=>lr _ _ _ _ _ (fun e=>hne (by rw[hhd,e]; rfl))⟩
   have hall:∀b ∈ (fps.set i fp).flatten,b < w.heap.size/\Gd c (aJ lm v.rows++σ.mem) Γ b:=by
    intro b hb
    obtain⟨f,hfm,hbf⟩:=mem_flatten.1 hb
    rcases List.mem_or_eq_of_mem_set hfm with hfm|rfl
    ·have:b ∈ fps.flatten:=mem_flatten.2 ⟨f,hfm,hbf⟩
     exact⟨hg.lt b this,hgds b (hf ▸ this)⟩
    ·exact⟨s.rp.lt hr b hbf,hgd b hbf⟩
   have hs2:=hf'.uH (v':=.slice (some ⟨g,0,none⟩) l.length cap) (ver':=vv) (o':=s.flat || (oo && lK lm [v])) hk' hset hgr (.inl (by rw[hhd])) (.inr ⟨rfl,hhd.symm⟩) hall
    (fun hfl=>by
     by_cases hfs:s.flat=true
     ·rw[qt hfs hset]; exact⟨cO _ _,fun b hb=>by cases hb⟩
     simp only[Bool.not_eq_true] at hfs
     rw[hfs,Bool.false_or,Bool.and_eq_true] at hfl
     obtain⟨rfl,hov⟩:=hfl
     obtain⟨hw1,hw2⟩:=hown hov
     have hw0:=hog rfl
     rw[hf] at hw0
     refine⟨dy (w:=w) ⟨F5 hw0.1 hw1.1 fun b hb hb'=>hw2 b hb k _ hk' (by simp only[ay.bY]; rw[hf]; exact hb'),fun b hb=>?_⟩ fun b hb=>lr _ _ _ _ _ (hng b (hall b hb).2),fun b hb j B hjk hj=>?_⟩
     ·obtain⟨f,hfm,hbf⟩:=mem_flatten.1 hb
      rcases List.mem_or_eq_of_mem_set hfm with hfm|rfl
      ·exact hw0.2 b (mem_flatten.2 ⟨f,hfm,hbf⟩)
      ·exact hw1.2 b hbf
     ·obtain⟨f,hfm,hbf⟩:=mem_flatten.1 hb
      rcases List.mem_or_eq_of_mem_set hfm with hfm|rfl
      ·exact hf'.pX k j _ B b hk' hj (Ne.symm hjk) (by simp only[ay.bY]; rw[hf]; exact mem_flatten.2 ⟨f,hfm,hbf⟩)
      ·exact hw2 b hbf j B hj)
   have hrun:(execOp a.eval o).run P w=.ok .skip (putCells w g (i * s.rp.size) (a.eval y).cells.toList):=by
    obtain⟨xs,ho2,_,_⟩:=hg.1
    rcases ho2.2 with ⟨h2,_⟩|⟨g',cap',cur,hv,hbg,hgg,h1',h2',h3',h4'⟩
    ·cases h2
    injection hv with hv _ hcap
    injection hv with hv; injection hv with hv
    subst hv hcap
    have hcl:=s.rp.len hr
    have hmul:(i+1) * s.rp.size<=l.length * s.rp.size:=mul_le_mul_right _ hi
    have hmul2:l.length * s.rp.size<=cap * s.rp.size:=mul_le_mul_right _ h1'
    have hs1:(i+1) * s.rp.size=i * s.rp.size+s.rp.size:=succ_mul _ _
    have hst:=nz (P:=P) g (a.eval y).cells.toList 0 (i * s.rp.size) w (fun j hj=>⟨cur[i * s.rp.size+j]'J,by rw[cell_of_row w _ _ cur e (0,0) hgg,add_zero,Array.getElem?_eq_getElem]⟩) (fun oo=>frozen_of_row w _ oo cur e hgg) (s.rp.one hr)
    have hsz:(a.eval y).cells.size=t.size:=by
     have:=s.bW
     simp only[length_toList] at hcl; omega
    rw[add_zero] at hpt
    simp only[execOp,ho,hpt,Instr.storeAt,Instr.sureAddr,storeVar,Sem.run_bind,Sem.run_pure,Result.andThen_ok,(hT ty t ht).sizeOf,hsz,ne_eq,not_true_eq_false,if_false]
    rw[hst]; rfl
   exact IK hrun (oH (u:=undef) hK' hd hs2 trivial rfl rfl)
  ·exact h.elim
 ·exact h.elim
def kT (K:bb->Prop) (p:Prop) (rd:List Nat) (neg:Bool):Prop:=(¬ p/\K ⟨.sc (.bool neg),[],rd⟩)\/K ⟨if neg then .nb True p else .nb p True,[],rd⟩
def O4 (P:Program) (lt:Nat->Option AV) (lm:Nat->Option ay) (K:bb->Prop) (op:BinOp) (ty:TypeId) (x:Operand):Prop :=
 vj (P.underlying ty)=true ∧
 match ev lt x with
 | some (.sc (.slice none 0 0)) =>
  match op with
  | .eql=>K (.val (.sc (.bool true)))
  | .neq=>K (.val (.sc (.bool false)))
  | _=>False
 | some v =>
  match v.data lm with
  | some ⟨_,l⟩ =>
   match op with
   | .eql=>kT K (l=[]) v.rows false
   | .neq=>kT K (l=[]) v.rows true
   | _=>False
  | none=>False
 | none=>False
theorem F9 {ty e:TypeId} {op:BinOp} {x:Operand} {a:Option Addr} {n c0:Nat} {w:World} (hu:P.underlying ty=some (.slice e)):(eqGuard op ty x (.const (.slice none 0 0)) (.slice a n c0) (.slice none 0 0)).run P w=.ok () w:=by
 cases op<;>simp[eqGuard,run_underlying hu,Program.eqGuardType,hu]
 all_goals (split<;>simp_all)
theorem Zc {op:BinOp} {ty ty2:TypeId} {x:Operand} (ho:o.op=.binOp op ty x (.const (.slice none 0 0)) ty2) (h:O4 P lt lm K op ty x):∃e,K e/\aT P c lt lm nx o e:=by
 unfold O4 at h
 obtain⟨hsl,h⟩:=h
 obtain⟨el,hu⟩:=rf hsl
 have hrun:∀(ac:Act) (w:World) (a:Option Addr) (n c0:Nat) (b:Bool),ac.eval x=.slice a n c0->(op=.eql/\b=a.isNone\/op=.neq/\b=!a.isNone)->(execOp ac.eval o).run P w=.ok (.value (.bool b)) w:=by
  intro ac w a n c0 b hx hb
  have hc:ac.eval (.const (.slice none 0 0))=.slice none 0 0:=rfl
  rcases hb with ⟨rfl,rfl⟩|⟨rfl,rfl⟩
  ·simp only[execOp,ho,hx,hc,Sem.run_bind,F9 hu,Result.andThen_ok,binOp,run_equal_slice_nil w ty el a n c0 hu,Sem.run_pure]
  ·simp only[execOp,ho,hx,hc,Sem.run_bind,F9 hu,Result.andThen_ok,run_neq_slice_nil w ty el a n c0 hu,Sem.run_pure]
 split at h
 ·rename_i hx
  split at h
  ·refine⟨_,h,aT.pure fun σ Γ ac w hs hl _=>⟨.bool true,?_,rfl,rfl,trivial⟩⟩
   have e1:ac.eval x=_:=(aX hs hl (by simp[ho,Op.operands]) hx:aR c σ.mem Γ w _ (ac.eval x)).1
   exact hrun ac w none 0 0 true e1 (.inl ⟨rfl,rfl⟩)
  ·refine⟨_,h,aT.pure fun σ Γ ac w hs hl _=>⟨.bool false,?_,rfl,rfl,trivial⟩⟩
   have e1:ac.eval x=_:=(aX hs hl (by simp[ho,Op.operands]) hx:aR c σ.mem Γ w _ (ac.eval x)).1
   exact hrun ac w none 0 0 false e1 (.inr ⟨rfl,rfl⟩)
  ·exact h.elim
 ·rename_i v hnot hx
  split at h
  ·rename_i t l hd
   have key:∀(σ:St) (Γ:aC) (ac:Act) (w:World),aH c σ Γ ac w->(∀t ∈ kG o,look σ.tmps t=lt t)->(∀k ∈ v.rows,look σ.mem k=lm k)->∃ad cc,ac.eval x=.slice ad l.length cc/\(ad=none->l=[]):=by
    intro σ Γ ac w hs hl hm
    obtain⟨ad,cc,css,fps,h1,_,_,h4,_⟩:=td hs (aX hs hl (by simp[ho,Op.operands]) hx) hm hd
    exact⟨ad,cc,h1,h4⟩
   split at h
   ·rcases h with ⟨hp,hK⟩|hK
    ·refine⟨_,hK,aT.pure fun σ Γ ac w hs hl hm=>?_⟩
     obtain⟨ad,cc,h1,h2⟩:=key σ Γ ac w hs hl hm
     cases ad with
     | none=>exact absurd (h2 rfl) hp
     | some a=>exact⟨.bool false,hrun ac w _ _ _ _ h1 (.inl ⟨rfl,rfl⟩),rfl,rfl,trivial⟩
    ·refine⟨_,hK,aT.pure fun σ Γ ac w hs hl hm=>?_⟩
     obtain⟨ad,cc,h1,h2⟩:=key σ Γ ac w hs hl hm
     refine⟨.bool ad.isNone,hrun ac w _ _ _ _ h1 (.inl ⟨rfl,rfl⟩),_,rfl,fun hb=>?_,fun _=>trivial⟩
     cases ad with
     | none=>exact h2 rfl
     | some a=>cases hb
   ·rcases h with ⟨hp,hK⟩|hK
    ·refine⟨_,hK,aT.pure fun σ Γ ac w hs hl hm=>?_⟩
     obtain⟨ad,cc,h1,h2⟩:=key σ Γ ac w hs hl hm
     cases ad with
     | none=>exact absurd (h2 rfl) hp
     | some a=>exact⟨.bool true,hrun ac w _ _ _ _ h1 (.inr ⟨rfl,rfl⟩),rfl,rfl,trivial⟩
    ·refine⟨_,hK,aT.pure fun σ Γ ac w hs hl hm=>?_⟩
     obtain⟨ad,cc,h1,h2⟩:=key σ Γ ac w hs hl hm
     refine⟨.bool (!ad.isNone),hrun ac w _ _ _ _ h1 (.inr ⟨rfl,rfl⟩),_,rfl,fun _=>trivial,fun hb=>?_⟩
     cases ad with
     | none=>exact h2 rfl
     | some a=>cases hb
   ·exact h.elim
  ·exact h.elim
 ·exact h.elim
theorem ZC {σ:St} {Γ:aC} {ac:Act} {w:World} (hs:aH c σ Γ ac w) {xs:List Operand} {u v:Value} (hl:∀x ∈ xs,∀t,x=.tmp t->look σ.tmps t=lt t) (h:ia lt xs=some [.sc u,.sc v]):xs.map ac.eval=[u,v]/\jO u/\jO v:=by
 have h2:=mN hs hl h (by rfl)
 match xs,h2 with
 | [x,y],⟨h1,h2,_⟩=>exact⟨by rw[map_cons,map_cons,h1.1,h2.1]; rfl,h1.2.2,h2.2.2⟩
theorem Yj {xs:Array Operand} {tys:Array TypeId} (ho:o.op=.call { callee:=.builtin .min,args:=xs,argTypes:=tys }) (h:Om lt K xs):∃e,K e/\aT P c lt lm nx o e:=by
 unfold Om at h
 split at h
 ·rename_i a b he
  refine⟨_,h,aT.pure fun σ Γ ac w hs hl _=>?_⟩
  obtain⟨e1,o1,o2⟩:=ZC hs (fun x hx t e=>hl t (fX (x:=x) (by simp only[ho,Op.operands,Call.operands]; simpa using hx) e)) he
  have e2:xs.map ac.eval=#[.int .i64 a,.int .i64 b]:=toList_inj.1 (by rw[toList_map,e1])
  refine⟨.int .i64 (min a b),?_,rfl,rfl,?_⟩
  ·have hm:(if b < a then b else a)=min a b:=by split<;>omega
   simp[execOp,ho,resolve,invoke,builtin,e2,Builtin.min_,Builtin.min2,Result.andThen,hm]
  ·show bU (min a b)
   rcases Int.le_total a b with h|h
   ·rw[Int.min_eq_left h]; exact o1
   ·rw[Int.min_eq_right h]; exact o2
 ·exact h.elim
theorem Y7 {xs:Array Operand} {tys:Array TypeId} (ho:o.op=.call { callee:=.builtin .max,args:=xs,argTypes:=tys }) (h:PI lt K xs):∃e,K e/\aT P c lt lm nx o e:=by
 unfold PI at h
 split at h
 ·rename_i a b he
  refine⟨_,h,aT.pure fun σ Γ ac w hs hl _=>?_⟩
  obtain⟨e1,o1,o2⟩:=ZC hs (fun x hx t e=>hl t (fX (x:=x) (by simp only[ho,Op.operands,Call.operands]; simpa using hx) e)) he
  have e2:xs.map ac.eval=#[.int .i64 a,.int .i64 b]:=toList_inj.1 (by rw[toList_map,e1])
  refine⟨.int .i64 (max a b),?_,rfl,rfl,?_⟩
  ·have hm:(if b > a then b else a)=max a b:=by split<;>omega
   simp[execOp,ho,resolve,invoke,builtin,e2,Builtin.max_,Builtin.max2,Result.andThen]
   omega
  ·show bU (max a b)
   rcases Int.le_total a b with h|h
   ·rw[Int.max_eq_right h]; exact o2
   ·rw[Int.max_eq_left h]; exact o1
 ·exact h.elim
end
def kx:(A:Ty)->A.den->List aL
 | .prod A B,x=>kx A x.1++kx B x.2
 | t,x=>[⟨t,x⟩]
def qw (lm:Nat->Option ay):(A:Ty)->A.den->List Nat->Prop
 | .prod A B,x,ks=>qw lm A x.1 (ks.take A.size)/\qw lm B x.2 (ks.drop A.size)
 | .ext .ref t,some y,[k]=>match lm k with
  | some (.bx _ cs)=>Is lm t y cs
  | _=>False
 | _,_,_=>False
def sx (lm:Nat->Option ay):AV->List Nat
 | .iQ _ ks=>ks.flatMap (dI lm)
 | v=>v.rows
def GR (lm:Nat->Option ay):(t:Ty)->t.den->FuncId->List Nat->Prop
 | .ext (.ie g) A,some x,f,ks=>g=f/\qw lm A x ks
 | _,_,_,_=>False
theorem Ay {lm:Nat->Option ay}:∀{d:aL} {f:FuncId} {ks:List Nat},GR lm d.1 d.2 f ks->∃(A:Ty) (x:A.den),d=⟨.ext (.ie f) A,some x⟩/\qw lm A x ks
 | ⟨.ext (.ie g) A,some x⟩,f,ks,h=>by obtain⟨rfl,h⟩:=h; exact⟨A,x,rfl,h⟩
 | ⟨.ext (.ie g) A,none⟩,f,ks,h=>h.elim
 | ⟨.ext .ref _,_⟩,_,_,h=>h.elim
 | ⟨.ext .sS _,_⟩,_,_,h=>h.elim
 | ⟨.int,_⟩,_,_,h=>h.elim
 | ⟨.bool,_⟩,_,_,h=>h.elim
 | ⟨.str,_⟩,_,_,h=>h.elim
 | ⟨.u8,_⟩,_,_,h=>h.elim
 | ⟨.dr _,_⟩,_,_,h=>h.elim
 | ⟨.prod _ _,_⟩,_,_,h=>h.elim
 | ⟨.slice _,_⟩,_,_,h=>h.elim
def ye (lm:Nat->Option ay) (d:aL):AV->Prop
 | .iQ f ks=>GR lm d.1 d.2 f ks
 | v=>dw lm d v
section
variable (P:Program) (T:TypeId->Option Ty) (lt:Nat->Option AV) (lm:Nat->Option ay) (nx:Nat) (K:bb->Prop)
def y8 (x:Operand):Prop :=
 match ev lt x with
 | some (.ptr k off)=>K (.val (.ptr k off))
 | some (.ref t y off)=>K (.val (.ref t y off))
 | _=>False
def wZ (lt:Nat->Option AV):List Operand->Option (List Nat)
 | []=>some []
 | x :: xs=>match ev lt x,wZ lt xs with
  | some (.ptr k 0),some ks=>some (k :: ks)
  | _,_=>none
def vz (fn:_root_.Go.Fn) (c:List Operand):Prop :=
 match fn,wZ lt c with
 | .func f,some ks=>K (.val (.iQ f ks))
 | _,_=>False
def sQ (n:Nat) (e:TypeId) (x y:Operand):Prop :=
 match T e,ev lt x,ev lt y with
 | some t,some (.ptr k off),some (.sc (.int .i64 z))=>0<=z/\z < n/\K (.val (.ptr k (off+z.toNat * t.size)))
 | some t,some (.ref s q off),some (.sc (.int .i64 z))=>0<=z/\z < n/\K (.val (.ref s q (off+z.toNat * t.size)))
 | _,_,_=>False
def sM (ty:TypeId) (parts:Array (Nat × Operand)):Prop :=
 match T ty with
 | some t=>parts.toList=[]/\t.isAgg=true/\K (.val (.agg (Ky t)))
 | none=>False
def Js (r:Option Operand):Prop:=r=none/\K (.val (.ex .sS .int (some 0)))
def qu (f:FuncId) (A:Ty) (x:A.den) (vs:List AV):Prop:=∃(args:List aL) (d:aL),Fn P f (args++kx A x) false [d]/\d.1.flat=true/\aA (fun v d=>dw lm d v) vs args/\K ⟨av d.1 d.2,[],vs.flatMap AV.rows⟩
def jl (f:FuncId) (vs:List AV):Prop:=∃(args:List aL) (d:aL),Fn P f args false [d]/\d.1.flat=true/\aA (fun v d=>ye lm d v) vs args/\K ⟨av d.1 d.2,[],vs.flatMap (sx lm)⟩
def PT (f:FuncId) (A:Ty) (x:A.den) (vs:List AV):Prop:=False/\( ∃(args:Nat->List aL) (ds:List aL) (res:List aL) (kc b:Nat) (zs zs':List Value),FnW P f args (Ou zs) (Ou zs') res/\(∀z ∈ zs',z.oneCell'=true/\jO z)/\args b=ds++kx A x/\aA (fun v d=>dw (nW lm) d v) vs ds/\lm kc=some (.bx (some b) (zs.map fun z=>.sc z))/\K ⟨v7 res,[(kc,.bx (some b) (zs'.map fun z=>.sc z))],kc :: vs.flatMap AV.rows⟩)
def SH (f:FuncId) (A:Ty) (x:A.den) (vs:List AV):Prop:=qu P lm K f A x vs\/PT P lm K f A x vs
theorem abL (lm:Nat->Option ay) (k:Nat):k ∈ dI lm k:=by
 unfold dI
 split
 ·exact mem_cons_self
 ·exact mem_singleton.2 rfl
theorem abn (lm:Nat->Option ay) (k:Nat):k ∈ jV lm k:=by
 unfold jV
 split
 ·exact mem_cons_self
 ·exact mem_singleton.2 rfl
theorem pZ {α β:Type} {f g:α->List β}:∀{l:List α},(∀x ∈ l,f x=g x)->l.flatMap f=l.flatMap g
 | [],_=>rfl
 | a :: l,h=>by rw[flatMap_cons,flatMap_cons,h a mem_cons_self,pZ fun x hx=>h x (mem_cons_of_mem _ hx)]
def yV:Option ay->Prop
 | some (.row ..)=>False
 | _=>True
def lQ (lm:Nat->Option ay):List Nat->Prop
 | []=>True
 | k :: ks=>yV (lm k)/\lQ lm ks
theorem qx {lm:Nat->Option ay}:∀{ks:List Nat} {k:Nat},lQ lm ks->k ∈ ks->yV (lm k)
 | [],_,_,h=>nomatch h
 | j :: ks,k,⟨h1,h2⟩,h=>(mem_cons.1 h).elim (fun e=>e ▸ h1) (qx h2)
def Rv (f:FuncId) (vs:List AV):Prop:=∃(ds:List aL) (e:TypeId) (t:Ty) (l l':List t.den) (k ver:Nat) (oo:Bool) (vs':List AV),VR P f ds e t l l'/\vs=.row k ver :: vs'/\lm k=some (.row e t ver oo l)/\aA (fun v d=>ye lm d v) vs' ds/\lQ lm (vs'.flatMap (sx lm))/\K ⟨.row k (ver+1),[(k,.row e t (ver+1) t.flat l')],k :: vs'.flatMap (sx lm)⟩
def QM (f:FuncId) (vs:List AV):Prop:=∃(args:List aL) (d:aL),Fn P f args true [d]/\aA (fun v d=>ye lm d v) vs args/\K ⟨jI nx d,(aN nx d.1 d.2).2,vs.flatMap (sx lm)⟩
def Cs (f:FuncId) (vs:List AV):Prop:=jl P lm K f vs\/OD P lm K f vs\/Rv P lm K f vs\/QM P lm nx K f vs
def Hj:List AV->Bool
 | []=>false
 | .iQ _ _ :: _=>true
 | _ :: vs=>Hj vs
def Dk (fop:Operand) (xs:Array Operand):Prop :=
 match ev lt fop,ia lt xs.toList with
 | some (.ex (.ie f) A (some x)),some vs=>vs.all AV.ok=true/\SH P lm K f A x vs
 | some (.iQ f ks),some vs=>vs.all AV.ok=true/\jw P lm K f (vs++ks.map fun k=>.ptr k 0)
 | some (.sc (.func (.func f) fi ca)),some vs=>if Hj vs=true then fi=#[]/\ca=#[]/\vs.all AV.ok=true/\Cs P lm nx K f vs else GK P lt lm nx K fop xs
 | _,_=>False
end
section
variable {P:Program} {T:TypeId->Option Ty} {c:Cx} [Nonempty (CG P c)] {lt:Nat->Option AV} {lm:Nat->Option ay} {nx:Nat} {K:bb->Prop} {o:Oper}
theorem Pw {x:Operand} (ho:o.op=.nilCheck x) (h:y8 lt K x):∃e,K e/\aT P c lt lm nx o e:=by
 unfold y8 at h
 split at h
 ·rename_i k off hx
  refine⟨_,h,aT.pure fun σ Γ a w hs hl _=>?_⟩
  have hv:aR c σ.mem Γ w (.ptr k off) (a.eval x):=aX hs hl (by simp[ho,Op.operands]) hx
  obtain⟨xo,cs,hc,e⟩:=hv
  exact⟨a.eval x,by simp[execOp,ho,e],xo,cs,hc,e⟩
 ·rename_i t y off hx
  refine⟨_,h,aT.pure fun σ Γ a w hs hl _=>?_⟩
  have hv:aR c σ.mem Γ w (.ref t y off) (a.eval x):=aX hs hl (by simp[ho,Op.operands]) hx
  have hv':=hv
  obtain⟨b,oo,cs,fp,e,_⟩:=hv'
  exact⟨a.eval x,by simp[execOp,ho,e],hv⟩
 ·exact h.elim
theorem CR {σ:St} {Γ:aC} {a:Act} {w:World} (hs:aH c σ Γ a w):∀{xs:List Operand} {ks:List Nat},(∀x ∈ xs,∀t,x=.tmp t->look σ.tmps t=lt t)->wZ lt xs=some ks →
  aA (AZ σ.mem Γ) ks (xs.map a.eval)
 | [],ks,_,h=>by injection h with h; subst h; trivial
 | x :: xs,ks,hl,h=>by
  simp only[wZ] at h
  split at h
  ·rename_i k ks' hx hks
   injection h with h; subst h
   have h1:=CR hs (fun y hy=>hl y (mem_cons_of_mem _ hy)) hks
   have hv:aR c σ.mem Γ w (.ptr k 0) (a.eval x):=ll hs (hl x mem_cons_self) hx
   exact⟨hv,h1⟩
  ·cases h
theorem K0 {fn:_root_.Go.Fn} {f cc:Array Operand} (ho:o.op=.makeFunc fn f cc) (hf:f=#[]) (h:vz lt K fn cc.toList):∃e,K e/\aT P c lt lm nx o e:=by
 subst hf
 unfold vz at h
 split at h
 ·rename_i g ks hks
  refine⟨_,h,aT.pure fun σ Γ a w hs hl _=>?_⟩
  have h1:=CR hs (fun x hx t e=>hl t (fX (by simp only[ho,Op.operands]; simp; simpa using hx) e)) hks
  refine⟨.func (.func g) #[] (cc.toList.map a.eval).toArray,?_,_,rfl,h1⟩
  have:cc.map a.eval=(cc.toList.map a.eval).toArray:=toList_inj.1 (by rw[toList_map])
  simp only[execOp,ho,Instr.makeFunc,Sem.run_bind,Sem.run_pure,Result.andThen_ok,this]
  simp
 ·exact h.elim
theorem JZ (hT:bD P T) {ty e:TypeId} {n:Nat} {x y:Operand} (hu:P.underlying ty=some (.array n e)) (ho:o.op=.indexAddr ty x y) (h:sQ T lt K n e x y):∃e,K e/\aT P c lt lm nx o e:=by
 unfold sQ at h
 have key:∀(t:Ty) (b off:Nat) (z:Int) (a:Act) (w:World),T e=some t->a.eval x=.pointer (some ⟨b,off,none⟩)->a.eval y=.int .i64 z->0<=z->z < n->(execOp a.eval o).run P w=.ok (.value (.pointer (some ⟨b,off+z.toNat * t.size,none⟩))) w:=by
  intro t b off z a w ht e1 e2 h0 hz
  have hsz:=(hT e t ht).sizeOf w
  simp only[execOp,ho,e1,e2,Instr.indexAt,Instr.sureAddr,asIntOf,Sem.run_bind,Sem.run_pure,Result.andThen_ok,run_underlying hu,hsz]
  rw[if_pos ⟨h0,hz⟩]
  simp only[Sem.run_bind,Sem.run_pure,Result.andThen_ok,ew,hsz]
 split at h
 ·rename_i t k off z ht hx hy
  obtain⟨h0,hz,hK⟩:=h
  refine⟨_,hK,aT.pure fun σ Γ a w hs hl _=>?_⟩
  obtain⟨xo,cs,hc,e1⟩:=(aX hs hl (by simp[ho,Op.operands]) hx:aR c σ.mem Γ w _ (a.eval x))
  have e2:a.eval y=_:=(aX hs hl (by simp[ho,Op.operands]) hy:aR c σ.mem Γ w _ (a.eval y)).1
  exact⟨_,key t _ _ z a w ht e1 e2 h0 hz,xo,cs,hc,rfl⟩
 ·rename_i t s q off z ht hx hy
  obtain⟨h0,hz,hK⟩:=h
  refine⟨_,hK,aT.pure fun σ Γ a w hs hl _=>?_⟩
  obtain⟨b,oo,cs,fp,e1,hr,hrest⟩:=(aX hs hl (by simp[ho,Op.operands]) hx:aR c σ.mem Γ w _ (a.eval x))
  have e2:a.eval y=_:=(aX hs hl (by simp[ho,Op.operands]) hy:aR c σ.mem Γ w _ (a.eval y)).1
  exact⟨_,key t _ _ z a w ht e1 e2 h0 hz,b,oo,cs,fp,by rw[add_assoc],hr,hrest⟩
 ·exact h.elim
theorem Hx (hT:bD P T) {ty e:TypeId} {n:Nat} {parts:Array (Nat × Operand)} (hu:P.underlying ty=some (.array n e)) (hes:(T e).isSome=true) (ho:o.op=.build ty parts) (h:sM T K ty parts):∃e,K e/\aT P c lt lm nx o e:=by
 unfold sM at h
 split at h
 ·rename_i t ht
  obtain⟨hp,hag,hK⟩:=h
  refine⟨_,hK,aT.pure fun σ Γ a w hs hl _=>?_⟩
  obtain⟨i,dd,hi1,hi2,hi3,_,_⟩:=hT _ _ ht
  obtain⟨te,hte⟩:=Option.isSome_iff_exists.1 hes
  have hse:=(hT _ _ hte).sizeOf w
  have hpe:parts=#[]:=toList_inj.1 hp
  have hz:(zeroValue ty).run P w=.ok t.zv w:=by
   simp[zeroValue,typeInfo,hi1,hi3]
  refine⟨.agg t.zc.toArray,?_,_,rfl,Dy t⟩
  simp[execOp,ho,hpe,Instr.build,hz,run_underlying hu,hse,Instr.fill,sb]
 ·exact h.elim
theorem Nl {w:World}:∀{A:Ty} {x:A.den} {cs:List Value} {fp:List Nat},A.rp.rep w cs x fp->aA (fun v d=>∃fp,bV w v d fp/\∀b ∈ fp,(fun _=>True) b) cs (kx A x):=by
 intro A
 induction A with
 | prod A B ihA ihB =>
  intro x cs fp h
  obtain⟨c1,c2,f1,f2,rfl,rfl,h1,h2⟩:=h
  exact (ihA h1).app (ihB h2)
 | _ =>
  intro x cs fp h
  have hl:=(Ty.rp _).len h
  rw[Ty.bW] at hl
  match cs,hl with
  | [v],_=>exact⟨⟨fp,⟨[v],.inr ⟨rfl,rfl⟩,h⟩,fun _ _=>trivial⟩,trivial⟩
theorem G6 {σ:St} {Γ:aC} {a:Act} {w:World} (hs:aH c σ Γ a w):∀{A:Ty} {x:A.den} {ks:List Nat} {us:List Value},aA (AZ σ.mem Γ) ks us->qw (look σ.mem) A x ks->∃fp,A.rp.rep w us x fp/\(lQ (look σ.mem) (ks.flatMap (dI (look σ.mem)))->∀b ∈ fp,Gd c σ.mem Γ b\/∃k xo cs,look σ.mem k=some (.bx xo cs)/\b=Γ.loc k xo):=by
 intro A
 induction A with
 | prod A B ihA ihB =>
  intro x ks us hp h
  obtain⟨f1,h1,g1⟩:=ihA (hp.take _) h.1
  obtain⟨f2,h2,g2⟩:=ihB (hp.drop _) h.2
  have sub:∀{ks':List Nat},(∀k ∈ ks',k ∈ ks)->lQ (look σ.mem) (ks.flatMap (dI (look σ.mem)))->lQ (look σ.mem) (ks'.flatMap (dI (look σ.mem))):=fun {ks'} hk hn=>by
   have:∀{l:List Nat},(∀j ∈ l,yV (look σ.mem j))->lQ (look σ.mem) l:=by
    intro l
    induction l with
    | nil=>intro _; trivial
    | cons j l ih=>intro h; exact⟨h j mem_cons_self,ih fun i hi=>h i (mem_cons_of_mem _ hi)⟩
   refine this fun j hj=>?_
   obtain⟨i,hi,hj⟩:=mem_flatMap.1 hj
   exact qx hn (mem_flatMap.2 ⟨i,hk i hi,hj⟩)
  refine⟨f1++f2,⟨_,_,f1,f2,by rw[take_append_drop],rfl,h1,h2⟩,fun hn b hb=>?_⟩
  rcases mem_append.1 hb with hb|hb
  ·exact g1 (sub (fun k hk=>mem_of_mem_take hk) hn) b hb
  ·exact g2 (sub (fun k hk=>mem_of_mem_drop hk) hn) b hb
 | ext e t _ =>
  intro x ks us hp h
  cases e with
  | ref =>
   cases x with
   | none=>exact h.elim
   | some y =>
    match ks,us,hp,h with
    | [k],[u],hp,h =>
     have h:(match look σ.mem k with
      | some (.bx _ cs)=>Is (look σ.mem) t y cs
      | _=>False):=h
     split at h
     ·rename_i xo cs hk
      obtain⟨⟨xo',cs',hq,rfl⟩,_⟩:=hp
      rw[hk] at hq; cases hq
      obtain⟨us,e,hg,hc⟩:=vT hs hk
      obtain⟨fp,hr,_,hgd⟩:=hs.j7 hc h
      refine⟨Γ.loc k xo :: fp,⟨Γ.loc k xo,0,us.toList,fp,rfl,rfl,hr,fun j v hv=>?_⟩,fun hn b hb=>?_⟩
      ·rw[zero_add,cell_of_row w _ _ us e (0,0) hg,<-getElem?_toList]; exact hv
      ·rcases mem_cons.1 hb with rfl|hb
       ·exact .inr ⟨k,xo,cs,hk,rfl⟩
       ·refine .inl (hgd (fun j ver hj e t v o l he=>?_) b hb)
        have:=qx hn (k:=j) (by simp only[flatMap_cons,List.flatMap_nil,append_nil,dI,hk]; exact mem_cons_of_mem _ (List.mem_append_left _ (nw hj)))
        rw[he] at this
        exact this
     ·exact h.elim
    | [_],[],hp,_=>exact hp.elim
    | [_],_ :: _ :: _,hp,_=>exact hp.2.elim
    | [],_,_,h=>exact h.elim
    | _ :: _ :: _,_,_,h=>exact h.elim
  | _=>exact h.elim
 | _=>intro x ks us _ h; exact h.elim
theorem Ms {σ:St} {Γ:aC} {a:Act} {w:World} (hs:aH c σ Γ a w) {A:Ty} {x:A.den} {ks:List Nat} {us:List Value} (h1:aA (AZ σ.mem Γ) ks us) (h2:qw (look σ.mem) A x ks):∃fp,A.rp.rep w us x fp:=let ⟨fp,h,_⟩:=G6 hs h1 h2; ⟨fp,h⟩
theorem tF {lm lm':Nat->Option ay}:∀{A:Ty} {x:A.den} {ks:List Nat},(∀k ∈ ks.flatMap (dI lm),lm' k=lm k)->qw lm A x ks->qw lm' A x ks:=by
 intro A
 induction A with
 | prod A B ihA ihB =>
  intro x ks hc h
  exact⟨ihA (fun k hk=>hc k (by obtain⟨j,hj,hk⟩:=mem_flatMap.1 hk; exact mem_flatMap.2 ⟨j,mem_of_mem_take hj,hk⟩)) h.1,
   ihB (fun k hk=>hc k (by obtain⟨j,hj,hk⟩:=mem_flatMap.1 hk; exact mem_flatMap.2 ⟨j,mem_of_mem_drop hj,hk⟩)) h.2⟩
 | ext e t _ =>
  intro x ks hc h
  cases e with
  | ref =>
   cases x with
   | none=>exact h.elim
   | some y =>
    match ks,hc,h with
    | [k],hc,h =>
     have h:(match lm k with
      | some (.bx _ cs)=>Is lm t y cs
      | _=>False):=h
     show (match lm' k with
      | some (.bx _ cs)=>Is lm' t y cs
      | _=>False)
     split at h
     ·rename_i xo cs hk
      have h1:lm' k=lm k:=hc k (by simp[dI,hk])
      rw[h1,hk]
      exact iw (fun j hj=>hc j (by simp[dI,hk,hj])) h
     ·exact h.elim
    | [],_,h=>exact h.elim
    | _ :: _ :: _,_,h=>exact h.elim
  | _=>exact h.elim
 | _=>intro x ks _ h; exact h.elim
theorem sR {w:World} {a:Act} {M:Mm} {Γ:aC} {lm':Nat->Option ay} {S:Nat->Prop}:∀{vs:List AV} {xs:List Operand} {args:List aL},aA (fun v x=>bq c M Γ w v (a.eval x)) vs xs->aA (fun v d=>ye lm' d v) vs args →
  (∀v d u,v ∈ vs->bq c M Γ w v u->ye lm' d v->∃fp,bV w u d fp/\∀b ∈ fp,S b)->aA (fun v d=>∃fp,bV w v d fp/\∀b ∈ fp,S b) (xs.map a.eval) args
 | [],[],[],_,_,_=>trivial
 | v :: vs,x :: xs,d :: args,⟨h1,h2⟩,⟨h3,h4⟩,hf=>⟨hf v d _ mem_cons_self h1 h3,sR h2 h4 fun v d u hv=>hf v d u (mem_cons_of_mem _ hv)⟩
 | [],_ :: _,_,h,_,_=>h.elim
 | [],[],_ :: _,_,h,_=>h.elim
 | _ :: _,[],_,h,_,_=>h.elim
 | _ :: _,_ :: _,[],_,h,_=>h.elim
theorem JC {σ:St} {Γ:aC} {a:Act} {w w':World} {d:aL} {u:Value} {fp:List Nat} {rows:List Nat} {Kc:Act->World->Prop} (hs:aH c σ Γ a w) (hb:Below w.heap.size w w') (hfl:d.1.flat=true) (hdr:bV w' u d fp) (hd:∀x,o.dst=some x->x < c.n)
  (hK:∀ Γ' a' w',aH c (σ.app o.dst ⟨av d.1 d.2,[],rows⟩) Γ' a' w'->Kc a' w'):Kc (a.put o.dst u) w':=by
 have hs':=hs.frame hb
 obtain⟨cs,hpk,hrp⟩:=hdr
 have hf0:=fL hfl hrp
 subst hf0
 have hv:aR c σ.mem Γ w' (av d.1 d.2) u:=b8 (jn ⟨cs,hpk,hrp⟩ fun b hbb=>by cases hbb)
 refine hK Γ _ _ ?_
 have:=hs'.put (d:=o.dst) hv (fun x hx=>hd x hx)
 unfold St.app
 cases hdst:o.dst<;>simp only[hdst,St.put] at this ⊢<;>exact this
theorem RG {fop:Operand} {xs:Array Operand} {tys:Array TypeId} (ho:o.op=.call { callee:=.value fop,args:=xs,argTypes:=tys }) {f:FuncId} {vs:List AV} (hf:ev lt fop=some (.sc (.func (.func f) #[] #[]))) (hvs:ia lt xs.toList=some vs) (hok:vs.all AV.ok=true) (h:jl P lm K f vs):∃e,K e/\aT P c lt lm nx o e:=by
 obtain⟨args,d,hfn,hfl,hargs,hK⟩:=h
 refine⟨_,hK,(fun p hp=>by cases hp),fun σ Γ a w hs hl hm hn hd K Q hK=>?_⟩
 obtain⟨hr,hv⟩:=dR ho hf hvs hok hfn.1 σ Γ a w hs hl
 unfold Oper.wp
 rw[hr,Oper.upon_enter]
 have hma:xs.map a.eval=(xs.toList.map a.eval).toArray:=toList_inj.1 (by rw[toList_map])
 rw[hma]
 have hrd:∀v ∈ vs,∀k ∈ sx lm v,look σ.mem k=lm k:=fun v hv k hk=>hm k (mem_flatMap.2 ⟨v,hv,hk⟩)
 have hda:=sR (S:=fun _=>True) hv hargs (fun v d u hvm hvr hi=>by
  have hrv:=hrd v hvm
  cases v with
  | iQ g ks =>
   obtain⟨A,x,rfl,hc⟩:=Ay hi
   obtain⟨us,rfl,hpk⟩:=hvr
   obtain⟨fp,hrp⟩:=Ms hs hpk (tF (lm':=look σ.mem) hrv hc)
   exact⟨fp,⟨_,.inr ⟨rfl,rfl⟩,_,rfl,hrp⟩,fun _ _=>trivial⟩
  | _ =>
   obtain⟨fp,h1,_⟩:=hs.jN hvr (cV (d:=d) hrv hi)
   exact⟨fp,h1,fun _ _=>trivial⟩)
 refine (hfn.2 w _ _ (jj hs) hda).mono ?_
 rintro e w' ⟨hb,u,rfl,fp,hdr,_,_⟩
 exact JC hs hb hfl hdr hd hK
theorem Pq {fop:Operand} {xs:Array Operand} {tys:Array TypeId} (ho:o.op=.call { callee:=.value fop,args:=xs,argTypes:=tys }) {f:FuncId} {vs:List AV} (hf:ev lt fop=some (.sc (.func (.func f) #[] #[]))) (hvs:ia lt xs.toList=some vs) (hok:vs.all AV.ok=true) (h:Rv P lm K f vs):∃e,K e/\aT P c lt lm nx o e:=by
 obtain⟨ds,e,t,l,l',k,ver,oo,vs',hfn,rfl,hk,hargs,hnr,hK⟩:=h
 refine⟨_,hK,?_⟩
 clear hK
 refine⟨fun p hp=>?_,fun σ Γ a w hs hl hm hn hd K Q hK=>?_⟩
 ·rw[mem_singleton] at hp; subst hp; exact .inr mem_cons_self
 obtain⟨hr,hv⟩:=dR ho hf hvs hok hfn.1 σ Γ a w hs hl
 unfold Oper.wp
 rw[hr,Oper.upon_enter]
 have hma:xs.map a.eval=(xs.toList.map a.eval).toArray:=toList_inj.1 (by rw[toList_map])
 rw[hma]
 have hk':look σ.mem k=some (.row e t ver oo l):=(hm k mem_cons_self).trans hk
 have hrd:∀v ∈ vs',∀j ∈ sx lm v,look σ.mem j=lm j:=fun v hv j hj=>hm j (mem_cons_of_mem _ (mem_flatMap.2 ⟨v,hv,hj⟩))
 have hnv:∀v ∈ vs',∀j ∈ sx lm v,yV (look σ.mem j):=fun v hv j hj=>by rw[hrd v hv j hj]; exact qx hnr (mem_flatMap.2 ⟨v,hv,hj⟩)
 match xs.toList,hv with
 | y :: ys,⟨hv1,hv2⟩ =>
  obtain⟨h1,B,hB,hh⟩:=hv1
  rw[hk'] at hB; injection hB with hB; subst hB
  have hu2:a.eval y=Γ.hd k:=hh.2 rfl
  obtain⟨fps,hg,hfp,hgds,_⟩:=hs.mm k _ hk'
  have hgd:∀b,Gd c σ.mem Γ b->(Γ.hd k).ownBlock ≠ some b:=fun b hb e=>hb.2 ⟨k,_,hk',e⟩
  have hda:=sR (S:=fun b=>(Γ.hd k).ownBlock ≠ some b) hv2 hargs (fun v d u hvm hvr hi=>by
   have hrv:=hrd v hvm
   have hnw:=hnv v hvm
   cases v with
   | iQ g ks =>
    obtain⟨A,x,rfl,hc⟩:=Ay hi
    obtain⟨us,rfl,hpk⟩:=hvr
    have hrv:∀j ∈ ks.flatMap (dI lm),look σ.mem j=lm j:=hrv
    obtain⟨fp,hrp,hq⟩:=G6 hs hpk (tF (lm':=look σ.mem) hrv hc)
    have hbr:∀j ∈ ks,dI (look σ.mem) j=dI lm j:=fun j hj=>by
     have h0:look σ.mem j=lm j:=hrv j (mem_flatMap.2 ⟨j,hj,abL lm j⟩)
     unfold dI
     rw[h0]
     split
     ·rename_i cs hb
      have:∀v ∈ cs,ku (look σ.mem) v=ku lm v:=fun v hv=>by
       cases v with
       | ptr i off =>
        show jV (look σ.mem) i=jV lm i
        have h2:look σ.mem i=lm i:=hrv i (mem_flatMap.2 ⟨j,hj,by
         unfold dI; rw[hb]
         exact mem_cons_of_mem _ (List.mem_append_right _ (mem_flatMap.2 ⟨_,hv,abn lm i⟩))⟩)
        unfold jV; rw[h2]
       | _=>rfl
      rw[pZ this]
     ·rfl
    refine⟨fp,⟨_,.inr ⟨rfl,rfl⟩,_,rfl,hrp⟩,fun b hb=>?_⟩
    rcases hq (by
     rw[pZ hbr]
     have:∀{l:List Nat},(∀j ∈ l,yV (look σ.mem j))->lQ (look σ.mem) l:=by
      intro l
      induction l with
      | nil=>intro _; trivial
      | cons j l ih=>intro h; exact⟨h j mem_cons_self,ih fun i hi=>h i (mem_cons_of_mem _ hi)⟩
     exact this hnw) b hb with hb|⟨j,xo,cs,hj,rfl⟩
    ·exact hgd b hb
    ·intro e0
     have:=hs.inj _ _ _ _ _ hj hk' rfl e0
     subst this
     rw[hj] at hk'; cases hk'
   | _ =>
    obtain⟨fp,h1,_,h3⟩:=hs.jN hvr (cV (d:=d) hrv hi)
    exact⟨fp,h1,fun b hb=>hgd b (h3 (fun j hj e t v o l he=>by have:=hnw j hj; rw[he] at this; exact this) b hb)⟩)
  show Calls P f (a.eval y :: ys.map a.eval).toArray w _
  rw[hu2] at h1 ⊢
  refine (hfn.2 w 0 (Γ.hd k) _ fps (jj hs) (fun b hb e=>(hgds b (hfp ▸ hb)).2 ⟨k,_,hk',e⟩) (fun g hb g' hg'=>Oh (c:=c) (hg.own hb).1.or g' hg') h1 hg.1 hda).mono ?_
  rintro en w' ⟨v',fps',rfl,h1',hob,hg',hgr,hsub⟩
  have hs2:=hs.uH (o':=t.flat) (ver':=ver+1) (v':=v') hk' hg' hgr (.inl hob) (.inl rfl)
   (fun b hb=>⟨hg.lt b (hsub b hb),hgds b (hfp ▸ hsub b hb)⟩) (fun hfl=>by rw[u9 hfl hg']; exact⟨cO _ _,fun b hb=>by cases hb⟩)
  refine hK (Γ.fB k v' fps'.flatten) _ _ ?_
  have:=hs2.put (d:=o.dst) (v:=.row k (ver+1)) (u:=v') ⟨h1',_,aD ..,le_refl _,fun _=>by rw[aC.cI]⟩ (fun x hx=>hd x hx)
  unfold St.app
  cases hdst:o.dst<;>simp only[hdst,St.put] at this ⊢<;>exact this
 | [],h=>exact h.elim
theorem OJ (hnx:∀k,nx<=k->lm k=none) {fop:Operand} {xs:Array Operand} {tys:Array TypeId} (ho:o.op=.call { callee:=.value fop,args:=xs,argTypes:=tys }) {f:FuncId} {vs:List AV} (hf:ev lt fop=some (.sc (.func (.func f) #[] #[]))) (hvs:ia lt xs.toList=some vs) (hok:vs.all AV.ok=true) (h:QM P lm nx K f vs):∃e,K e/\aT P c lt lm nx o e:=by
 obtain⟨args,d,hfn,hargs,hK⟩:=h
 refine⟨_,hK,?_⟩
 clear hK
 refine⟨fun p hp=>.inl (cX p hp).1,fun σ Γ a w hs hl hm hn hd K Q hK=>?_⟩
 obtain⟨hr,hv⟩:=dR ho hf hvs hok hfn.1 σ Γ a w hs hl
 unfold Oper.wp
 rw[hr,Oper.upon_enter]
 have hma:xs.map a.eval=(xs.toList.map a.eval).toArray:=toList_inj.1 (by rw[toList_map])
 rw[hma]
 have hrd:∀v ∈ vs,∀k ∈ sx lm v,look σ.mem k=lm k:=fun v hv k hk=>hm k (mem_flatMap.2 ⟨v,hv,hk⟩)
 have hda:=sR (S:=fun _=>True) hv hargs (fun v d u hvm hvr hi=>by
  have hrv:=hrd v hvm
  cases v with
  | iQ g ks =>
   obtain⟨A,x,rfl,hc⟩:=Ay hi
   obtain⟨us,rfl,hpk⟩:=hvr
   obtain⟨fp,hrp⟩:=Ms hs hpk (tF (lm':=look σ.mem) hrv hc)
   exact⟨fp,⟨_,.inr ⟨rfl,rfl⟩,_,rfl,hrp⟩,fun _ _=>trivial⟩
  | _ =>
   obtain⟨fp,h1,_⟩:=hs.jN hvr (cV (d:=d) hrv hi)
   exact⟨fp,h1,fun _ _=>trivial⟩)
 refine (hfn.2 w _ _ (jj hs) hda).mono ?_
 rintro e w' ⟨hb,u,rfl,fp,hdr,hown,hfp⟩
 refine MM hs hb hdr (hown rfl) (fun p hp=>?_) hd hK
 by_cases hin:p.1 ∈ vs.flatMap (sx lm)
 ·rw[hm p.1 hin]; exact hnx _ (cX p hp).1
 ·exact hn p hp hin
theorem RF {fop:Operand} {xs:Array Operand} {tys:Array TypeId} (ho:o.op=.call { callee:=.value fop,args:=xs,argTypes:=tys }) {f:FuncId} {A:Ty} {x:A.den} {vs:List AV} (hf:ev lt fop=some (.ex (.ie f) A (some x))) (hvs:ia lt xs.toList=some vs) (hok:vs.all AV.ok=true) (h:qu P lm K f A x vs):∃e,K e/\aT P c lt lm nx o e:=by
 obtain⟨args,d,hfn,hfl,hargs,hK⟩:=h
 refine⟨_,hK,(fun p hp=>by cases hp),fun σ Γ a w hs hl hm hn hd K Q hK=>?_⟩
 have hl':∀x ∈ o.op.operands.toList,∀t,x=.tmp t->look σ.tmps t=lt t:=fun x hx t e=>hl t (fX hx e)
 obtain⟨fpc,hrc,_⟩:=(ll hs (hl' fop (by simp[ho,Op.operands,Call.operands])) hf:aR c σ.mem Γ w _ (a.eval fop))
 obtain⟨cs',e1,hrc⟩:=hrc
 injection e1 with e1
 have hv:=mN hs (fun x hx=>hl' x (by simp only[ho,Op.operands,Call.operands]; simp; exact .inr (by simpa using hx))) hvs hok
 have hma:xs.map a.eval=(xs.toList.map a.eval).toArray:=toList_inj.1 (by rw[toList_map])
 have hr:(execOp a.eval o).run P w=.ok (.enter f (xs.toList.map a.eval++cs').toArray) w:=by
  have h0:=hfn.1 (xs.map a.eval++cs'.toArray) w
  rw[hma] at h0
  simp[execOp,ho,resolve,e1,Deferred.ofValue,invoke]
  rw[hma]
  simpa using h0
 unfold Oper.wp
 rw[hr,Oper.upon_enter]
 have hrows:∀v ∈ vs,∀k ∈ v.rows,look σ.mem k=lm k:=fun v hv k hk=>hm k (mem_flatMap.2 ⟨v,hv,hk⟩)
 have hda:=(iv (S:=fun _=>True) hv hargs (fun v d u hvm hvr hi=>by
  obtain⟨fp,h1,_⟩:=hs.jN hvr (cV (hrows v hvm) hi)
  exact⟨fp,h1,fun _ _=>trivial⟩)).app (Nl hrc)
 refine (hfn.2 w _ _ (jj hs) hda).mono ?_
 rintro e w' ⟨hb,u,rfl,fp,hdr,_,_⟩
 exact JC hs hb hfl hdr hd hK
theorem Oo {fop:Operand} {xs:Array Operand} {tys:Array TypeId} (ho:o.op=.call { callee:=.value fop,args:=xs,argTypes:=tys }) {f:FuncId} {A:Ty} {x:A.den} {vs:List AV} (hf:ev lt fop=some (.ex (.ie f) A (some x))) (hvs:ia lt xs.toList=some vs) (hok:vs.all AV.ok=true) (h:PT P lm K f A x vs):∃e,K e/\aT P c lt lm nx o e:=h.1.elim
theorem Sq (hnx:∀k,nx<=k->lm k=none) {fop:Operand} {xs:Array Operand} {tys:Array TypeId} (ho:o.op=.call { callee:=.value fop,args:=xs,argTypes:=tys }) (h:Dk P lt lm nx K fop xs):∃e,K e/\aT P c lt lm nx o e:=by
 unfold Dk at h
 split at h
 ·rename_i f A x vs hf hvs
  exact h.2.elim (RF ho hf hvs h.1) (Oo ho hf hvs h.1)
 ·rename_i f ks vs hf hvs
  obtain⟨hok,h⟩:=h
  have hfr:∀vs w,(callFunc f vs).run P w=.ok (.enter f vs) w:=by obtain⟨_,_,_,_,hfn,_⟩:=h; exact hfn.1
  refine Ge (fun σ Γ a w hs hl=>?_) h
  have hl':∀x ∈ o.op.operands.toList,∀t,x=.tmp t->look σ.tmps t=lt t:=fun x hx t e=>hl t (fX hx e)
  obtain⟨us,e1,hk⟩:=(ll hs (hl' fop (by simp[ho,Op.operands,Call.operands])) hf:aR c σ.mem Γ w _ (a.eval fop))
  have hv:=mN hs (fun x hx=>hl' x (by simp only[ho,Op.operands,Call.operands]; simp; exact .inr (by simpa using hx))) hvs hok
  refine⟨xs.toList.map a.eval++us,?_,(hv.sK a.eval).app ?_⟩
  ·have h0:=hfr (xs.map a.eval++us.toArray) w
   have e2:(xs.toList.map a.eval++us).toArray=xs.map a.eval++us.toArray:=toList_inj.1 ah
   rw[e2]
   simp[execOp,ho,resolve,e1,Deferred.ofValue,invoke,h0]
  ·have key:∀{ks:List Nat} {us:List Value},aA (AZ σ.mem Γ) ks us->aA (fun v u=>bq c σ.mem Γ w v u) (ks.map fun k=>AV.ptr k 0) us:=by
    intro ks
    induction ks with
    | nil=>intro us h; cases us with
     | nil=>trivial
     | cons=>exact h.elim
    | cons k ks ih=>intro us h; cases us with
     | nil=>exact h.elim
     | cons u us=>exact⟨h.1,ih h.2⟩
   exact key hk
 ·rename_i f fi ca vs hf hvs
  split at h
  ·obtain⟨rfl,rfl,hok,h⟩:=h
   exact h.elim (RG ho hf hvs hok) fun h=>h.elim (FW ho hf hvs hok) fun h=>h.elim (Pq ho hf hvs hok) (OJ hnx ho hf hvs hok)
  ·exact U9 hnx ho h
 ·exact h.elim
end
open Go.ChangeMaps (setBlock)
structure aaM (P:Program) (ty:TypeId):Prop where
 ok:∃kt et,P.underlying ty=some (.map kt et)/\Maps.Keyed P kt/\(∀s,I3 s->∃l,keyOf P kt (K3 s)=some l)/\∀w,(zeroValue et).run P w=.ok (.bool false) w
section
variable {P:Program} {w:World} {m:Nat} {es:Array MapEntry} {ck:Nat} {g:List ((Int × Int × Int) × Bool)} {ty:TypeId} {s:Int × Int × Int}
end
section
variable (P:Program) (T:TypeId->Option Ty) (lt:Nat->Option AV) (lm:Nat->Option ay) (nx:Nat) (K:bb->Prop)
def VI (x:Operand):Option (Nat × Option Value × Nat × List ((Int × Int × Int) × Bool)) :=
 match ev lt x with
 | some (.row k ver)=>match lm k with
  | some (.ob xo v (.map g))=>if v=ver then some (k,xo,v,g) else none
  | _=>none
 | some (.sc (.map (some m)))=>match lm 0 with
  | some (.ob (some (.map (some m'))) v (.map g))=>if m'=m then some (0,some (.map (some m')),v,g) else none
  | _=>none
 | _=>none
def N7 (ty:TypeId) (x y:Operand) (c:Bool):Prop:=False/\(
 match VI lt lm x,ev lt y with
 | some (k,_,_,g),some (.agg [.sc (.int .i64 a),.sc (.int .i64 b),.sc (.int .i64 d)]) =>
  aaM P ty/\K ⟨if c then .dY [.sc (.bool ((Mw g (a,b,d)).getD false)),.sc (.bool (Mw g (a,b,d)).isSome)] else .sc (.bool ((Mw g (a,b,d)).getD false)),[],[k]⟩
 | _,_=>False)
def Pb (ty:TypeId) (x y z:Operand):Prop:=False/\(
 match VI lt lm x,ev lt y,ev lt z with
 | some (k,xo,v,g),some (.agg [.sc (.int .i64 a),.sc (.int .i64 b),.sc (.int .i64 d)]),some (.sc (.bool r)) =>
  aaM P ty/\K ⟨.ke,[(k,.ob xo v (.map (((a,b,d),r) :: g)))],[k]⟩
 | _,_,_=>False)
def D1 (ty:TypeId) (r:Option Operand):Prop:=False/\(
 match T ty with
 | some (.dr (.mp none))=>r=none/\K ⟨.row nx 0,[(nx,.ob none 0 (.map []))],[]⟩
 | _=>Js K r)
end
section
variable {P:Program} {T:TypeId->Option Ty} {c:Cx} [Nonempty (CG P c)] {lt:Nat->Option AV} {lm:Nat->Option ay} {nx:Nat} {K:bb->Prop} {o:Oper}
theorem VK {ty:TypeId} {x y:Operand} {cm:Bool} (ho:o.op=.lookup ty x y cm) (h:N7 P lt lm K ty x y cm):∃e,K e/\aT P c lt lm nx o e:=h.1.elim
theorem M0 {ty:TypeId} {x y z:Operand} (ho:o.op=.mapUpdate ty x y z\/o.op=.insert ty x y z) (h:Pb P lt lm K ty x y z):∃e,K e/\aT P c lt lm nx o e:=h.1.elim
theorem OG {t:TypeId} {r:Option Operand} (ho:o.op=.makeMap t r) (h:D1 T nx K t r):∃e,K e/\aT P c lt lm nx o e:=h.1.elim
end
theorem wK {P:Program} {w:World} (t ty e:TypeId) (i:TypeInfo) (ht:P.underlying t=some (.slice e)) (hi:P.info? e=some i)
  (g off sLen sCap:Nat) (cur:Array Value) (hg:w.heap[g]? = some (.cells cur e (0,0)))
  (a:Addr) (m c:Nat) (news:List Value) (hl:news.length=m * i.size) (hnews:∀j u,news[j]? = some u->w.cell? (a.add j)=some u) (h1:∀u ∈ news,u.oneCell'=true)
  (hroom:sLen+m<=sCap) (hfit:off+sLen * i.size+news.length<=cur.size) :
  (Builtin.append_ #[t,t] ty #[.slice (some ⟨g,off,none⟩) sLen sCap,.slice (some a) m c]).run P w =
   .ok (.slice (some ⟨g,off,none⟩) (sLen+m) sCap) (w.setRow g (cur.toList.take (off+sLen * i.size)++news++cur.toList.drop (off+sLen * i.size+news.length)).toArray):=by
 have hf:=run_firstCells_some (P:=P) w i.size m a m c news hl hnews
 have hst:=run_storeCells_at P g (off+sLen * i.size) e news 0 cur w hg (by simpa using hfit) h1
 simp only[add_zero] at hst
 simp[Builtin.append_,run_underlying ht,sizeOf,typeInfo,hi,Builtin.lenOf,hroom,hf,ew,hst]
theorem HF {t:Ty} (hf:t.flat=true) {w w':World} {cs:List Value} {x:t.den} (h:t.rp.rep w cs x []):t.rp.rep w' cs x []:=t.rp.frame h fun b hb=>by cases hb
theorem Lo {P:Program} {w:World} {v:Value} {s:Ty} {l m:List s.den} {o:Obj} {b:Nat} {css:List (List Value)} {fps2:List (List Nat)} {a:Addr} {cc:Nat} (t ty e:TypeId) (i:TypeInfo) (z:Value) (ht:P.underlying t=some (.slice e)) (hi:P.info? e=some i) (hz:i.zero=some z)
  (hsize:i.size=s.rp.size) (hzs:z.cells.size=s.rp.size) (hf:s.flat=true) (hI:(Ah.je e s l).I v o) (hb:lJ (.je e s l) v=some b) (hg:w.heap[b]? = some o) (hr:eZ s.rp w m css fps2) (hc:∀j d,css.flatten[j]? = some d->w.cell? (a.add j)=some d)
  (h63:l.length+m.length<=maxLen) (hbytes:(l.length+m.length) * i.bytes<=140737488355328) :
  ∃v' w' b' o',(Builtin.append_ #[t,t] ty #[v,.slice (some a) m.length cc]).run P w=.ok v' w'/\lJ (.je e s (l++m)) v'=some b'/\w'.heap[b']? = some o'/\(Ah.je e s (l++m)).I v' o'/\w.grownBy w' (some b)/\(b'=b\/b'=w.heap.size)/\v'.oneCell'=true:=by
 obtain⟨b0,off,cap,us,rfl,rfl,hlc,hcm,hsz,hel⟩:=hI
 have hbb:(Value.slice (some ⟨b0,off,none⟩) l.length cap).ownBlock=some b:=hb
 have hbb':some b0=some b:=hbb
 injection hbb' with hbb'
 subst hbb'
 obtain⟨g1,g2⟩:=u5 hr.len
 have hps:=s.pos
 have hnl:css.flatten.length=m.length * s.rp.size:=by rw[g1,hr.1]
 have hnews:∀i x,m[i]? = some x->∃cs,s.rp.rep w cs x []/\∀j u,cs[j]? = some u->css.flatten[i * s.rp.size+j]? = some u:=fun i x hx=>by
  obtain⟨cs,f,h1,h2,h3⟩:=hr.2.2 i x hx
  have h5:=fL hf h3
  subst h5
  exact⟨cs,h3,fun j u hj=>g2 i cs j u h1 hj⟩
 have hcapm:l.length * s.rp.size<=cap * s.rp.size:=mul_le_mul_right _ hlc
 have hul:us.toList.length=us.size:=length_toList
 by_cases hroom:l.length+m.length<=cap
 ·have hfit:off+l.length * i.size+css.flatten.length<=us.size:=by
   have:=mul_le_mul_right s.rp.size hroom
   rw[add_mul] at this
   rw[hnl,hsize]; omega
  have hrun:=wK (P:=P) t ty e i ht hi b0 off l.length cap us hg a m.length cc css.flatten (by rw[hnl,hsize]) hc hr.one hroom hfit
  rw[hsize] at hrun hfit
  refine⟨_,_,b0,_,hrun,rfl,setRow_heap w b0 us _ e _ hg,⟨b0,off,cap,_,by rw[length_append],rfl,by rw[length_append]; exact hroom,hcm,?_,fun w' i x hx=>?_⟩,⟨rfl,rfl,rfl,by simp,fun k _ hk=>setRow_other w b0 k _ (fun e=>hk (by rw[e]))⟩,.inl rfl,rfl⟩
  ·simp only[size_toArray,length_append,length_take,length_drop,length_toList]
   omega
  ·by_cases hil:i < l.length
   ·rw[getElem?_append_left hil] at hx
    obtain⟨cs,h1,h2⟩:=hel w' i x hx
    refine⟨cs,h1,fun j u hj=>?_⟩
    have h3:=h2 j u hj
    have hjl:j < s.rp.size:=by rw[<-s.rp.len h1]; exact (List.getElem?_eq_some_iff.1 hj).1
    have h4:(i+1) * s.rp.size<=l.length * s.rp.size:=mul_le_mul_right _ hil
    rw[add_mul,Nat.one_mul] at h4
    show (us.toList.take (off+l.length * s.rp.size)++css.flatten++us.toList.drop (off+l.length * s.rp.size+css.flatten.length))[off+i * s.rp.size+j]? = some u
    rw[append_assoc,getElem?_append_left (by rw[length_take,hul]; omega),getElem?_take,if_pos J]
    exact h3
   ·rw[getElem?_append_right J] at hx
    obtain⟨cs,h1,h2⟩:=hnews _ x hx
    refine⟨cs,HF hf h1,fun j u hj=>?_⟩
    have h3:=h2 j u hj
    have hlt:=(List.getElem?_eq_some_iff.1 h3).1
    have h4:l.length * s.rp.size<=i * s.rp.size:=mul_le_mul_right _ J
    have h5:(i - l.length) * s.rp.size=i * s.rp.size - l.length * s.rp.size:=Nat.sub_mul ..
    have htl:(List.take (off+l.length * s.rp.size) us.toList).length=off+l.length * s.rp.size:=by rw[length_take,hul]; omega
    show (us.toList.take (off+l.length * s.rp.size)++css.flatten++us.toList.drop (off+l.length * s.rp.size+css.flatten.length))[off+i * s.rp.size+j]? = some u
    rw[append_assoc,getElem?_append_right (by rw[htl]; omega),htl,getElem?_append_left J]
    rw[show off+i * s.rp.size+j - (off+l.length * s.rp.size)=(i - l.length) * s.rp.size+j from J]
    exact h3
 ·let olds:=(us.toList.drop off).take (l.length * s.rp.size)
  have hol:olds.length=l.length * s.rp.size:=by simp only[olds,length_take,length_drop,length_toList]; omega
  have holds:∀j u,olds[j]? = some u->w.cell? ((⟨b0,off,none⟩:Addr).add j)=some u:=fun j u hj=>by
   simp only[olds,getElem?_take] at hj
   split at hj
   ·rw[getElem?_drop] at hj
    rw[ew,cell_of_row w _ _ us e (0,0) hg,<-getElem?_toList]; exact hj
   ·cases hj
  have hrun:=run_append_grow (P:=P) (w:=w) t ty e i z ht hi hz ⟨b0,off,none⟩ l.length cap olds (by rw[hol,hsize]) holds a m.length cc css.flatten (by rw[hnl,hsize]) hc J (by simp only[maxLen] at h63; omega) (growslice_fits J hbytes)
  have hge:=grownCap_ge w (l.length+m.length) cap e
  have hle:grownCap w (l.length+m.length) cap e<=maxLen:=grownCap_le_maxLen w (l.length+m.length) cap e h63
  refine⟨_,_,w.heap.size,_,hrun,rfl,heap_alloc_new w.drew _,⟨w.heap.size,0,_,_,by rw[length_append],rfl,by rw[length_append]; exact hge,hle,?_,fun w' i x hx=>?_⟩,⟨rfl,rfl,rfl,by simp,fun k hk _=>heap_alloc_old w.drew _ hk⟩,.inr rfl,rfl⟩
  ·simp only[Array.size_append,size_toArray,size_zeroCells,hzs,hol,hnl,<-add_mul]
   have:l.length+m.length+(grownCap w (l.length+m.length) cap e - (l.length+m.length))=grownCap w (l.length+m.length) cap e:=J
   rw[this]; omega
  ·simp only[Array.toList_append,zero_add]
   by_cases hil:i < l.length
   ·rw[getElem?_append_left hil] at hx
    obtain⟨cs,h1,h2⟩:=hel w' i x hx
    refine⟨cs,h1,fun j u hj=>?_⟩
    have h3:=h2 j u hj
    have hjl:j < s.rp.size:=by rw[<-s.rp.len h1]; exact (List.getElem?_eq_some_iff.1 hj).1
    have h4:(i+1) * s.rp.size<=l.length * s.rp.size:=mul_le_mul_right _ hil
    rw[add_mul,Nat.one_mul] at h4
    rw[append_assoc,getElem?_append_left J]
    simp only[olds]
    rw[getElem?_take,if_pos J,getElem?_drop,<-add_assoc]
    exact h3
   ·rw[getElem?_append_right J] at hx
    obtain⟨cs,h1,h2⟩:=hnews _ x hx
    refine⟨cs,HF hf h1,fun j u hj=>?_⟩
    have h3:=h2 j u hj
    have hlt:=(List.getElem?_eq_some_iff.1 h3).1
    have h4:l.length * s.rp.size<=i * s.rp.size:=mul_le_mul_right _ J
    have h5:(i - l.length) * s.rp.size=i * s.rp.size - l.length * s.rp.size:=Nat.sub_mul ..
    rw[append_assoc,getElem?_append_right J,hol,getElem?_append_left J]
    rw[show i * s.rp.size+j - l.length * s.rp.size=(i - l.length) * s.rp.size+j from J]
    exact h3
section
variable (P:Program) (T:TypeId->Option Ty) (lt:Nat->Option AV) (lm:Nat->Option ay) (nx:Nat) (K:bb->Prop)
def Bf (x:Operand):Option (Nat × Nat × TypeId × sF) :=
 match ev lt x with
 | some (.row k ver)=>match lm k with
  | some (.ob none v (.je e t l))=>if v=ver then some (k,v,e,⟨t,l⟩) else none
  | _=>none
 | _=>none
def GI (ty:TypeId) (x:Operand):Prop :=
 match Bf lt lm x with
 | some (k,_,_,⟨_,l⟩)=>vj (P.underlying ty)=true/\K ⟨.sc (.int .i64 l.length),[],[k]⟩
 | none=>Pj P lt lm K ty x
def G0 (ty:TypeId) (x y:Operand):Prop :=
 match Bf lt lm x with
 | some (k,v,_,⟨t,l⟩) =>
  match P.underlying ty,ev lt y with
  | some (.slice e'),some (.sc (.int .i64 z)) =>
   match T e' with
   | some t'=>t'.size=t.size/\z=0/\0 < l.length/\K ⟨.mX k v 0,[],[k]⟩
   | none=>False
  | _,_=>False
 | none=>qv P T lt lm K ty x y
def CZ (ty:TypeId) (x:Operand):Prop :=
 match ev lt x with
 | some (.mX k ver 0) =>
  match T ty,lm k with
  | some t,some (.ob none v (.je _ s l))=>v=ver/\0 < l.length/\s.flat=true/\t.size<=s.size/\K ⟨vw t (js s (nth l 0)) 0,[],[k]⟩
  | _,_=>False
 | _=>GP T lt lm K ty x
def GU (ty:TypeId) (x:Operand) (lo hi mx:Option Operand):Prop :=
 match Bf lt lm x with
 | some (k,v,e,⟨t,l⟩) =>
  match P.underlying ty,xN lt lo 0,hi,mx with
  | some (.slice e'),some z,none,none =>
   match T e' with
   | some t'=>t'.size=t.size/\0<=z/\z<=l.length/\K ⟨.row k (v+1),[(k,.ob none (v+1) (.je e t (l.drop z.toNat)))],[k]⟩
   | none=>False
  | some (.slice e'),some z,some h,none =>
   match T e',xN lt (some h) l.length with
   | some t',some y=>t'.size=t.size/\z=0/\0 < y/\y<=l.length/\K ⟨.mX k v y.toNat,[],[k]⟩
   | _,_=>False
  | _,_,_,_=>False
 | none=>BW P T lt lm K ty x lo hi mx
def GL (ty:TypeId) (x y:Operand):Prop :=
 match Bf lt lm x with
 | some (k,v,e,⟨s,l⟩) =>
  match P.underlying ty,ev lt y with
  | some (.slice e'),some vv =>
   match T e',kV P e',vv.data lm with
   | some t,some i,some d =>
    match wV s d with
    | some m=>e'=e/\s.flat=true/\s.size=t.size/\0 < m.length/\(l.length+m.length) * i<=140737488355328/\l.length+m.length<=9223372036854775807 ∧
     K ⟨.row k (v+1),[(k,.ob none (v+1) (.je e s (l++m)))],k :: vv.rows⟩
    | none=>False
   | _,_,_=>False
  | _,_=>False
 | none=>zj P T lt lm nx K ty x y
end
section
variable {P:Program} {T:TypeId->Option Ty} {c:Cx} [Nonempty (CG P c)] {lt:Nat->Option AV} {lm:Nat->Option ay} {nx:Nat} {K:bb->Prop} {o:Oper}
theorem ze {x:Operand} {k v:Nat} {e:TypeId} {t:Ty} {l:List t.den} (h:Bf lt lm x=some (k,v,e,⟨t,l⟩)):ev lt x=some (.row k v)/\lm k=some (.ob none v (.je e t l)):=by
 unfold Bf at h
 split at h
 ·rename_i k' ver hv
  split at h
  ·rename_i v' e' t' l' hk
   split at h
   ·rename_i hvv
    injection h with h
    injection h with e1 h
    injection h with e2 h
    injection h with e3 h
    injection h with e4 e5
    subst e1 e2 e3 e4 hvv
    obtain rfl:=eq_of_heq e5
    exact⟨hv,hk⟩
   ·cases h
  ·cases h
 ·cases h
theorem uk {σ:St} {Γ:aC} {a:Act} {w:World} (hs:aH c σ Γ a w) {x:Operand} {k v:Nat} {e:TypeId} {t:Ty} {l:List t.den} (hx:x ∈ o.op.operands.toList) (hl:∀t ∈ kG o,look σ.tmps t=lt t) (hm:look σ.mem k=lm k)
  (h:ev lt x=some (.row k v)) (hk:lm k=some (.ob none v (.je e t l))):look σ.mem k=some (.ob none v (.je e t l))/\a.eval x=Γ.hd k/\∃b off cap us,Γ.hd k=.slice (some ⟨b,off,none⟩) l.length cap/\w.heap[b]? = some (.cells us e (0,0))/\l.length<=cap/\cap<=maxLen/\off+cap * t.rp.size<=us.size ∧
   (∀w i x,l[i]? = some x->∃cs,t.rp.rep w cs x []/\∀j u,cs[j]? = some u->us.toList[off+i * t.rp.size+j]? = some u):=by
 have hk':=hm.trans hk
 obtain⟨_,B,hB,hbh⟩:=(aX hs hl hx h:aR c σ.mem Γ w _ (a.eval x))
 rw[hk'] at hB
 injection hB with hB
 subst hB
 obtain⟨b,ob,h1,_,h3,b',off,cap,us,e1,rfl,h4,h5,h6,h7⟩:=hs.mm _ _ hk'
 have e1':Γ.hd k=.slice (some ⟨b',off,none⟩) l.length cap:=e1
 have h1':(Γ.hd k).ownBlock=some b:=h1
 rw[e1'] at h1'
 have h1':some b'=some b:=h1'
 injection h1' with h1'
 subst h1'
 exact⟨hk',hbh.2 rfl,_,off,cap,us,e1',h3,h4,h5,h6,h7⟩
theorem VC {x:Operand} {ty:TypeId} (ho:o.op=.call { callee:=.builtin .len,args:=#[x],argTypes:=#[ty] }) (h:GI P lt lm K ty x):∃e,K e/\aT P c lt lm nx o e:=by
 unfold GI at h
 split at h
 ·rename_i k v e t l hq
  obtain⟨hx,hk⟩:=ze hq
  refine⟨_,h.2,aT.pure fun σ Γ ac w hs hl hm=>?_⟩
  obtain⟨_,e1,b,off,cap,us,e2,_,h4,h5,_⟩:=uk (o:=o) hs (by simp[ho,Op.operands,Call.operands]) hl (hm k ah) hx hk
  obtain⟨e',he⟩:=rf h.1
  have hr:(Builtin.len_ #[ty] o.type #[.slice (some ⟨b,off,none⟩) l.length cap]).run P w=.ok (.int .i64 l.length) w:=by simp[Builtin.len_,run_underlying he,goInt]
  refine⟨_,by simp[execOp,ho,resolve,invoke,builtin,e1,e2,hr,Result.andThen]<;>rfl,rfl,rfl,?_⟩
  simp only[maxLen] at h5
  constructor<;>omega
 ·exact YU ho h
theorem Uh (hT:bD P T) {ty:TypeId} {x y:Operand} (ho:o.op=.indexAddr ty x y) (h:G0 P T lt lm K ty x y):∃e,K e/\aT P c lt lm nx o e:=by
 unfold G0 at h
 split at h
 ·rename_i k v e t l hq
  obtain⟨hx,hk⟩:=ze hq
  split at h
  ·rename_i e' z hu hy
   split at h
   ·rename_i t' ht
    obtain⟨hsz,rfl,hl0,hK⟩:=h
    refine⟨_,hK,aT.pure fun σ Γ ac w hs hl hm=>?_⟩
    obtain⟨hk',e1,b,off,cap,us,e2,_,h4,h5,_⟩:=uk (o:=o) hs (by simp[ho,Op.operands]) hl (hm k ah) hx hk
    have e3:ac.eval y=_:=(aX hs hl (by simp[ho,Op.operands]) hy:aR c σ.mem Γ w _ (ac.eval y)).1
    have hsz2:=(hT e' t' ht).sizeOf w
    refine⟨.pointer (some ⟨b,off,none⟩),?_,rfl,_,hk',fun x2 v2 d2 he=>?_⟩
    ·simp only[execOp,ho,e1,e2,e3,Instr.indexAt,asIntOf,Sem.run_bind,Sem.run_pure,Result.andThen_ok,run_underlying hu,hsz2]
     rw[if_pos ⟨Int.le_refl _,J⟩]
     simp[hsz2,ew]
    ·injection he with q1 q2 q3
     subst q1 q2
     exact⟨le_refl _,fun _=>⟨b,off,_,cap,e2,(if_pos rfl).symm⟩⟩
   ·exact h.elim
  ·exact h.elim
 ·exact Gv hT ho h
theorem Ra (hT:bD P T) {ty:TypeId} {x:Operand} (ho:o.op=.load ty x) (h:CZ T lt lm K ty x):∃e,K e/\aT P c lt lm nx o e:=by
 unfold CZ at h
 split at h
 ·rename_i k ver hx
  split at h
  ·rename_i t v e s l ht hk
   obtain⟨rfl,hl0,hf,hle,hK⟩:=h
   refine⟨_,hK,aT.pure fun σ Γ a w hs hl hm=>?_⟩
   have hk':=(hm k ah).trans hk
   obtain⟨_,B,hB,hbh⟩:=(aX hs hl (by simp[ho,Op.operands]) hx:aR c σ.mem Γ w _ (a.eval x))
   rw[hk'] at hB
   injection hB with hB
   subst hB
   obtain⟨_,hbh⟩:=hbh _ _ _ rfl
   obtain⟨g,off,n,cap,q1,q2⟩:=hbh rfl
   obtain⟨b,ob,h1,_,h3,b',off',cap',us,e1,rfl,h4,h5,h6,h7⟩:=hs.mm _ _ hk'
   rw[e1] at h1 q1
   injection q1 with q1 _ _
   injection q1 with q1
   injection q1 with q1 q3 _
   have h1:some b'=some b:=h1
   injection h1 with h1
   subst h1 q1 q3
   obtain⟨cs,hr,hcs⟩:=h7 w 0 l[0] (getElem?_eq_getElem hl0)
   have hlen:=s.rp.len hr
   rw[s.bW] at hlen
   have hc:=oQ (c:=c) (M:=σ.mem) (Γ:=Γ) hr (fun b hb=>by cases hb)
   have hrun:=l8 (P:=P) (hT ty t ht) (w:=w) (b:=b') (off:=off') (us:=(cs.drop 0).take t.size) (fun j u hj=>by
    rw[getElem?_take] at hj
    split at hj
    ·have:=hcs j u (by simpa using hj)
     rw[zero_mul,add_zero] at this
     rw[cell_of_row w _ _ us e (0,0) h3,<-getElem?_toList]; exact this
    ·cases hj) (by rw[length_take,length_drop]; omega)
   have hn:nth l 0=l[0]:=aM hl0
   have hcl:=hc.len
   have hg:=oB (t:=t) (off:=0) hc (by rw[hcl]; omega)
   refine⟨_,?_,by rw[hn]; exact b8 hg⟩
   rw[if_pos rfl] at q2
   simp only[execOp,ho,q2,Instr.loadAt,Instr.sureAddr,Sem.run_bind,Sem.run_pure,Result.andThen_ok,hrun]
   cases ha:t.isAgg with
   | true=>rfl
   | false =>
    simp only[false_eq_true,if_false]
    have:=t.pos; rw[t.bW] at this
    rw[getD_eq_getElem?_getD,getElem?_take,if_pos this,getElem?_drop,add_zero,getD_eq_getElem?_getD]
  ·exact h.elim
 ·exact TE hT ho h
theorem Uc (hT:bD P T) {ty:TypeId} {x:Operand} {lo hi mx:Option Operand} (ho:o.op=.slice ty x lo hi mx) (h:GU P T lt lm K ty x lo hi mx):∃e,K e/\aT P c lt lm nx o e:=by
 unfold GU at h
 split at h
 ·rename_i k v e t l hq
  obtain⟨hx,hk⟩:=ze hq
  split at h
  ·rename_i e' z hu hz
   split at h
   ·rename_i t' ht
    obtain⟨hsz,h0,hzl,hK⟩:=h
    refine⟨_,hK,aT.one (.inr ah) fun σ Γ a w hs hl hm _=>?_⟩
    obtain⟨hk',e1,b,off,cap,us,e2,h3,h4,h5,h6,h7⟩:=uk (o:=o) hs (by simp[ho,Op.operands]) hl (hm k ah) hx hk
    have hrun:=sJ (s:=t) (hT e' t' ht) hsz ho hu hs hl (e1.trans e2) h4 hz (hi:=none) (zb:=l.length) rfl h0 J (Int.le_refl _)
    have hdl:(l.drop z.toNat).length=l.length - z.toNat:=length_drop
    have hzn:z.toNat<=l.length:=J
    have hcm:=Nat.sub_mul cap z.toNat t.rp.size
    have hcz:z.toNat * t.rp.size<=cap * t.rp.size:=mul_le_mul_right _ J
    have hgr:∃off',(if cap=z.toNat then (some ⟨b,off,none⟩:Option Addr) else (some ⟨b,off,none⟩:Option Addr).map (·.add (z.toNat * t.rp.size)))=some ⟨b,off',none⟩/\(cap=z.toNat\/off'=off+z.toNat * t.rp.size)/\off'<=off+z.toNat * t.rp.size:=by
     by_cases hcc:cap=z.toNat
     ·exact⟨off,by rw[if_pos hcc],.inl hcc,J⟩
     ·exact⟨off+z.toNat * t.rp.size,by rw[if_neg hcc,map_some,ew],.inr rfl,le_refl _⟩
    obtain⟨off',hp,hoff,hole⟩:=hgr
    rw[hp] at hrun
    have hrun':(execOp a.eval o).run P w=.ok (.value (.slice (some ⟨b,off',none⟩) (l.drop z.toNat).length (cap - z.toNat))) w:=by rw[hrun,hdl,Int.toNat_natCast]
    have hI:(Ah.je e t (l.drop z.toNat)).I (.slice (some ⟨b,off',none⟩) (l.drop z.toNat).length (cap - z.toNat)) (.cells us e (0,0)):=by
     refine⟨b,off',_,us,rfl,rfl,by rw[hdl]; omega,J,J,fun w' i y hy=>?_⟩
     rw[getElem?_drop] at hy
     obtain⟨cs,q1,q2⟩:=h7 w' _ y hy
     refine⟨cs,q1,fun j u hj=>?_⟩
     have hlt:=(List.getElem?_eq_some_iff.1 hy).1
     rcases hoff with hcc|rfl
     ·omega
     ·have:=q2 j u hj
      rw[add_mul] at this
      rw[show off+z.toNat * t.rp.size+i * t.rp.size+j=off+(z.toNat * t.rp.size+i * t.rp.size)+j from J]
      exact this
    have hob:lJ (.je e t l) (Γ.hd k)=some b:=by rw[e2]; rfl
    exact⟨_,w,Γ.fB k _ [],.inl hrun',hs.Wq (d':=.je e t (l.drop z.toNat)) (b:=b) hk' rfl h3 hI (World.grownBy.refl w _) (.inl hob),rfl,_,aD ..,le_refl _,fun _=>(aC.cI ..).symm⟩
   ·exact h.elim
  ·rename_i e' z hh hu hz
   split at h
   ·rename_i t' y ht hy
    obtain⟨hsz,rfl,h0,hyl,hK⟩:=h
    refine⟨_,hK,aT.pure fun σ Γ a w hs hl hm=>?_⟩
    obtain⟨hk',e1,b,off,cap,us,e2,h3,h4,h5,h6,h7⟩:=uk (o:=o) hs (by simp[ho,Op.operands]) hl (hm k ah) hx hk
    have hrun:=sJ (s:=t) (hT e' t' ht) hsz ho hu hs hl (e1.trans e2) h4 hz hy (Int.le_refl _) (Int.le_of_lt h0) hyl
    have he:(if cap=(0:Int).toNat then (some ⟨b,off,none⟩:Option Addr) else (some ⟨b,off,none⟩:Option Addr).map (·.add ((0:Int).toNat * t.rp.size)))=some ⟨b,off,none⟩:=by
     split
     ·rfl
     ·simp[Addr.add]
    rw[he,show y.toNat - (0:Int).toNat=y.toNat by simp,show cap - (0:Int).toNat=cap by simp] at hrun
    refine⟨_,hrun,rfl,_,hk',fun x2 v2 d2 hee=>?_⟩
    injection hee with q1 q2 q3
    subst q1 q2
    exact⟨le_refl _,fun _=>⟨b,off,_,cap,e2,(if_neg J).symm⟩⟩
   ·exact h.elim
  ·exact h.elim
 ·exact Sf hT ho h
theorem Vq (hT:bD P T) (hnx:∀k,nx<=k->lm k=none) {ty:TypeId} {x y:Operand} (ho:o.op=.call { callee:=.builtin .append,args:=#[x,y],argTypes:=#[ty,ty] }) (h:GL P T lt lm nx K ty x y):∃e,K e/\aT P c lt lm nx o e:=by
 unfold GL at h
 split at h
 ·rename_i k v e s l hq
  obtain⟨hx,hk⟩:=ze hq
  split at h
  ·rename_i e' vv hu hy
   split at h
   ·rename_i t i d ht hi hdat
    split at h
    rotate_left
    ·exact h.elim
    rename_i m hmg
    obtain rfl:=yL hmg
    obtain⟨rfl,hf,hss,hm0,hb1,hb2,hK⟩:=h
    obtain⟨i',dd,hi1,hi2,hi3,_,_⟩:=hT _ _ ht
    simp only[kV,hi1,map_some,Option.some.injEq] at hi
    subst hi
    refine⟨_,hK,aT.one (.inr ah) fun σ Γ a w hs hl hm _=>?_⟩
    obtain⟨hk',e1,b,off,cap,us,e2,h3,h4,h5,h6,h7⟩:=uk (o:=o) hs (by simp[ho,Op.operands,Call.operands]) hl (hm k ah) hx hk
    have hv:=aX hs hl (x:=y) (by simp[ho,Op.operands,Call.operands]) hy
    obtain⟨ad,cc,css,fps2,hu2,hr2,_,hn2,hc2⟩:=td hs hv (fun j hj=>hm j (mem_cons_of_mem _ hj)) hdat
    cases ad with
    | none=>have:=hn2 rfl; subst this; simp at hm0
    | some ad =>
     have hsz':=s.bW
     have hob:lJ (.je e' s l) (Γ.hd k)=some b:=by rw[e2]; rfl
     obtain⟨v',w',b',o',r1,r2,r3,r4,r5,r6,r7⟩:=Lo (P:=P) (s:=s) (cc:=cc) ty o.type e' i' t.zv hu hi1 hi3 (by rw[hi2,hsz',hss]) (by rw[uB,hsz',hss]) hf ⟨b,off,cap,us,e2,rfl,h4,h5,h6,h7⟩ hob h3 hr2 (hc2 ad rfl) (by simp only[maxLen]; exact hb2) hb1
     refine⟨v',w',Γ.fB k v' [],.inl ?_,hs.Wq (d':=.je e' s (l++m)) (b:=b') hk' r2 r3 r4 (by rw[hob]; exact r5) (by rcases r6 with rfl|rfl; exact .inl hob; exact .inr (le_refl _)),r7,_,aD ..,le_refl _,fun _=>(aC.cI ..).symm⟩
     simp only[execOp,ho,resolve,invoke,builtin,Sem.run_bind,Sem.run_pure,Result.andThen_ok,List.map_toArray,map_cons,map_nil,e1,hu2,r1]
   ·exact h.elim
  ·exact h.elim
 ·exact PJ hT hnx ho h
end
end DW

set_option maxRecDepth 10000
namespace DW
open Go.RowKit
def byt (s:ByteArray) (i:Nat):Int:=((s.data.toList.getD i 0).toNat:Int)
section
variable (P:Program) (T:TypeId->Option Ty) (lt:Nat->Option AV) (lm:Nat->Option ay) (nx:Nat) (K:bb->Prop)
def PE (ty:TypeId) (x y:Operand):Prop:=False/\(
 match ev lt x,ev lt y with
 | some (.sc (.string s)),some (.sc (.int .i64 z))=>P.underlying ty=some .string/\0<=z/\z < s.size/\K (.val (.sc (.int .u8 (byt s z.toNat))))
 | _,_=>False)
def Od (ty:TypeId) (x:Operand) (lo hi mx:Option Operand):Prop:=False/\(
 match ev lt x,mx with
 | some (.sc (.string s)),none =>
  match xN lt lo 0,xN lt hi s.size with
  | some a,some b=>0<=a/\a<=b/\b<=s.size/\K (.val (.sc (.string (s.extract a.toNat b.toNat))))
  | _,_=>False
 | _,_=>False)
def BA (s d:TypeId) (x:Operand):Prop:=let _l:=lm; GQ P lt K s d x
end
section
variable {P:Program} {T:TypeId->Option Ty} {c:Cx} {lt:Nat->Option AV} {lm:Nat->Option ay} {nx:Nat} {K:bb->Prop} {o:Oper}
theorem Vj {ty:TypeId} {x y:Operand} (ho:o.op=.index ty x y) (h:PE P lt K ty x y):∃e,K e/\aT P c lt lm nx o e:=h.1.elim
theorem U3 {ty:TypeId} {x:Operand} {lo hi mx:Option Operand} (hu:P.underlying ty=some .string) (ho:o.op=.slice ty x lo hi mx) (h:Od lt K ty x lo hi mx):∃e,K e/\aT P c lt lm nx o e:=h.1.elim
theorem Qh {s d:TypeId} {x:Operand} (ho:o.op=.convert s d x) (h:BA P lt lm K s d x):∃e,K e/\aT P c lt lm nx o e:=by
 unfold BA at h
 exact TL ho h
end
section
variable (P:Program) (T:TypeId->Option Ty) (lt:Nat->Option AV) (lm:Nat->Option ay) (nx:Nat) (K:bb->Prop)
def me (o:Oper):Prop :=
 match o.op with
 | .move x=>BB lt K x
 | .assign x=>BB lt K x
 | .pick x y z=>G2 lt K x y z
 | .box _ x=>O5 lt nx K x
 | .alloc t=>Dg T nx K t
 | .load t x=>CZ T lt lm K t x
 | .store t x y =>
  match ev lt x with
  | some (.pL ..)=>sw T lt lm K t x y
  | some (.wk ..)=>vq T lt lm K t x y
  | _=>sI T lt lm K t x y
 | .fieldAddr s x f=>qL P T lt lm K s x f
 | .field s x f=>Ca P T lt K s x f
 | .indexAddr t x y =>
  match P.underlying t with
  | some (.array n e)=>sQ T lt K n e x y
  | _=>G0 P T lt lm K t x y
 | .nilCheck x=>y8 lt K x
 | .makeMap t r=>D1 T nx K t r
 | .lookup t x y c=>N7 P lt lm K t x y c
 | .mapUpdate t x y z=>Pb P lt lm K t x y z
 | .insert t x y z=>Pb P lt lm K t x y z
 | .binOp op t x y _ =>
  match y with
  | .const (.slice none 0 0)=>O4 P lt lm K op t x
  | _=>Ji P T lt K op t x y
 | .unOp op _ x=>Wo lt K op x
 | .convert s d x=>BA P lt lm K s d x
 | .index t x y=>PE P lt K t x y
 | .extract x i=>vu lt K x i
 | .build t ps =>
  match P.underlying t with
  | some (.array _ e)=>(T e).isSome=true/\sM T K t ps
  | _=>Dm P T lt K t ps
 | .buildSlice t n ps=>o9 P T lt lm nx K t n ps
 | .makeSlice t x y=>qF P T lt nx K t x y
 | .slice t x lo hi mx =>
  match P.underlying t with
  | some .string=>Od lt K t x lo hi mx
  | _=>GU P T lt lm K t x lo hi mx
 | .makeFunc fn f c =>
  match c.toList with
  | []=>f=#[]/\K (.val (.sc (.func fn #[] #[])))
  | _=>f=#[]/\vz lt K fn c.toList
 | .call { callee,args,argTypes } =>
  match callee with
  | .value f=>Dk P lt lm nx K f args
  | .builtin b =>
   match b,args.toList,argTypes.toList with
   | .len,[x],[t]=>GI P lt lm K t x
   | .append,[x,y],[t,u]=>t=u/\GL P T lt lm nx K t x y
   | .min,_,_=>Om lt K args
   | .max,_,_=>PI lt K args
   | _,_,_=>False
  | _=>False
 | _=>False
end
theorem oO {α:Type} {a:Array α} {l:List α} (h:a.toList=l):a=l.toArray:=toList_inj.1 (by rw[h])
theorem Jd {P:Program} {T:TypeId->Option Ty} {c:Cx} [Nonempty (CG P c)] {lt:Nat->Option AV} {lm:Nat->Option ay} {nx:Nat} {K:bb->Prop} {o:Oper} (hT:bD P T) (hnx:∀k,nx<=k->lm k=none) (h:me P T lt lm nx K o):∃e,K e/\aT P c lt lm nx o e:=by
 unfold me at h
 split at h
 ·rename_i x ho; exact G9 (.inl ho) h
 ·rename_i x ho; exact G9 (.inr ho) h
 ·rename_i x y z ho; exact Vn ho h
 ·rename_i t x ho; exact XX ho h
 ·rename_i t ho; exact QN hT ho h
 ·rename_i t x ho; exact Ra hT ho h
 ·rename_i t x y ho
  split at h
  ·exact IX hT ho h
  ·exact Gq hT ho h
  ·exact IG hT ho h
 ·rename_i s x f ho; exact Gu hT ho h
 ·rename_i s x f ho; exact RB hT ho h
 ·rename_i t x y ho
  split at h
  ·rename_i n e hu; exact JZ hT hu ho h
  ·exact Uh hT ho h
 ·rename_i x ho; exact Pw ho h
 ·rename_i t r ho; exact OG ho h
 ·rename_i t x y cm ho; exact VK ho h
 ·rename_i t x y z ho; exact M0 (.inl ho) h
 ·rename_i t x y z ho; exact M0 (.inr ho) h
 ·rename_i op t x y u ho
  split at h
  ·exact Zc ho h
  ·exact YI ho h
 ·rename_i op u x ho; exact Zr ho h
 ·rename_i s d x ho; exact Qh ho h
 ·rename_i t x y ho; exact Vj ho h
 ·rename_i x i ho; exact K5 ho h
 ·rename_i t ps ho
  split at h
  ·rename_i n e hu; exact Hx hT hu h.1 ho h.2
  ·exact QL hT ho h
 ·rename_i t n ps ho; exact Dz hT hnx ho h
 ·rename_i t x y ho; exact Gy hT ho h
 ·rename_i t x lo hi mx ho
  split at h
  ·rename_i hu; exact U3 hu ho h
  ·exact Uc hT ho h
 ·rename_i fn f cc ho
  split at h
  ·rename_i hc
   obtain⟨rfl,hK⟩:=h
   obtain rfl:cc=#[]:=toList_inj.1 hc
   refine⟨_,hK,aT.pure fun σ Γ a w hs hl _=>⟨.func fn #[] #[],?_,rfl,rfl,trivial⟩⟩
   simp[execOp,ho,Instr.makeFunc]
  ·exact K0 ho h.1 h.2
 ·rename_i callee args argTypes ho
  split at h
  ·exact Sq hnx ho h
  ·split at h
   ·rename_i x t h1 h2
    rw[oO h1,oO h2] at ho
    exact VC ho h
   ·rename_i x y t u h1 h2
    obtain⟨rfl,h⟩:=h
    rw[oO h1,oO h2] at ho
    exact Vq hT hnx ho h
   ·exact Yj ho h
   ·exact Y7 ho h
   ·exact h.elim
  ·exact h.elim
 ·exact h.elim
def fresh (M:Mm):Nat:=M.foldr (fun p n=>max (p.1+1) n) 0
theorem qM {M:Mm}:∀{k:Nat},fresh M<=k->look M k=none:=by
 induction M with
 | nil=>intros; rfl
 | cons p M ih =>
  obtain⟨j,B⟩:=p
  intro k h
  simp only[fresh,List.foldr_cons] at h
  have hm:fresh M<=k:=by simp only[fresh]; omega
  rw[aG _ _ J,ih hm]
def qz (ops:List Oper) (j:Nat):Option Nat:=(ops[j]?).bind (·.dst)
abbrev Tr:=List (List Nat × List Nat)
def bb.te (e:bb):List Nat × List Nat:=(e.j3.map (·.1),e.j3.map (·.1)++e.rd)
def bb.skip:bb:=⟨.dY [],[],[]⟩
def Wy (n:Nat) (o:Oper):Prop:=match o.dst with|some d=>d < n|none=>True
section
variable (P:Program) (T:TypeId->Option Ty) (n:Nat) (ops:List Oper)
def AO:List Oper->St->Tr->(St->Tr->Prop)->Prop
 | [],σ,tr,Q=>Q σ tr
 | o :: os,σ,tr,Q =>
  Wy n o ∧
  match o.guard with
  | none=>me P T (look σ.tmps) (look σ.mem) (fresh σ.mem) (fun e=>AO os (σ.app o.dst e) (tr++[e.te]) Q) o
  | some (j,want) =>
   match qz ops j with
   | some g =>
    match look σ.tmps g with
    | some (.sc (.bool b)) =>
     (b=want->me P T (look ((g,.sc (.bool want)) :: σ.tmps)) (look σ.mem) (fresh σ.mem) (fun e=>AO os (St.app ⟨(g,.sc (.bool want)) :: σ.tmps,σ.mem⟩ o.dst e) (tr++[e.te]) Q) o) ∧
     (b=!want->AO os (St.app ⟨(g,.sc (.bool (!want))) :: σ.tmps,σ.mem⟩ o.dst .skip) (tr++[bb.te .skip]) Q)
    | some (.dY _)=>AO os (σ.app o.dst .skip) (tr++[bb.te .skip]) Q
    | _=>False
   | none=>False
end
theorem H9 {σ:St} {g:Nat} {v:AV} (h:look σ.tmps g=some v):gh σ ⟨(g,v) :: σ.tmps,σ.mem⟩:=by
 refine⟨fun d=>?_,fun k=>rfl⟩
 by_cases hd:d=g
 ·subst hd; rw[aD,h]
 ·rw[aG _ _ hd]
def Ob (P:Program) (c:Cx) (ops:List Oper) (σ:St) (o:Oper) (e:bb):Prop :=
 (∀d,o.dst=some d->d < c.n) ∧
 match o.guard with
 | none=>∃nx,(∀k,nx<=k->look σ.mem k=none)/\aT P c (look σ.tmps) (look σ.mem) nx o e
 | some (j,want)=>∃g,qz ops j=some g/\((∃b,look σ.tmps g=some (.sc (.bool b)) ∧
   (b=want/\(∃nx,(∀k,nx<=k->look σ.mem k=none)/\aT P c (look σ.tmps) (look σ.mem) nx o e)\/b=(!want)/\e=.skip))\/(∃vs,look σ.tmps g=some (.dY vs))/\e=.skip)
def vB (σ:St):List (Oper × bb)->St
 | []=>σ
 | (o,e) :: l=>vB (σ.app o.dst e) l
inductive qs (P:Program) (c:Cx) (ops:List Oper):St->List Oper->List bb->Prop
 | nil (σ):qs P c ops σ [] []
 | cons {σ o os e es}:Ob P c ops σ o e->qs P c ops (σ.app o.dst e) os es->qs P c ops σ (o :: os) (e :: es)
theorem aT.same {P:Program} {c:Cx} {lt lt':Nat->Option AV} {lm lm':Nat->Option ay} {nx:Nat} {o:Oper} {e:bb} (h1:∀d,lt' d=lt d) (h2:∀k,lm' k=lm k) (h:aT P c lt lm nx o e):aT P c lt' lm' nx o e:=by
 have:lt'=lt:=funext h1
 have:lm'=lm:=funext h2
 subst lt' lm'
 exact h
theorem rS {σ σ':St} (h:gh σ σ') (d:Option Nat) (e:bb):gh (σ.app d e) (σ'.app d e):=by
 obtain⟨h1,h2⟩:=h
 cases d with
 | none=>exact⟨h1,fun k=>by simp only[St.app,a8,h2]⟩
 | some d=>exact⟨fun x=>by simp only[St.app,RW,h1],fun k=>by simp only[St.app,a8,h2]⟩
theorem mQ {P:Program} {T:TypeId->Option Ty} {c:Cx} [Nonempty (CG P c)] (hT:bD P T) {ops:List Oper}:∀{os:List Oper} {σ σ0:St} {tr:Tr} {Q:St->Tr->Prop},AO P T c.n ops os σ tr Q->gh σ0 σ →
  ∃es σ',qs P c ops σ0 os es/\Q σ' (tr++es.map bb.te)/\gh (vB σ0 (os.zip es)) σ'
 | [],σ,σ0,tr,Q,h,hs=>⟨[],σ,.nil _,by simpa using (show Q σ tr from h),hs⟩
 | o :: os,σ,σ0,tr,Q,h,hs=>by
  obtain⟨hd,h⟩:=h
  have hd':∀d,o.dst=some d->d < c.n:=fun d e=>by rw[Wy,e] at hd; exact hd
  split at h
  ·rename_i hg
   obtain⟨e,hK,hsok⟩:=Jd (c:=c) hT (fun k hk=>qM hk) h
   obtain⟨es,σ',h1,h2,h3⟩:=mQ hT hK (rS hs o.dst e)
   refine⟨e :: es,σ',.cons ⟨hd',?_⟩ h1,by simpa using h2,h3⟩
   rw[hg]
   exact⟨fresh σ.mem,fun k hk=>by rw[<-hs.2]; exact qM hk,hsok.same (fun d=>(hs.1 d).symm) (fun k=>(hs.2 k).symm)⟩
  ·rename_i j want hg
   split at h
   ·rename_i g hgs
    split at h
    ·rename_i b hb
     have hb0:look σ0.tmps g=some (.sc (.bool b)):=by rw[<-hs.1]; exact hb
     by_cases hbw:b=want
     ·have hs':gh σ0 ⟨(g,.sc (.bool want)) :: σ.tmps,σ.mem⟩:=⟨fun d=>((H9 (v:=.sc (.bool want)) (hbw ▸ hb)).1 d).trans (hs.1 d),hs.2⟩
      obtain⟨e,hK,hsok⟩:=Jd (c:=c) hT (fun k hk=>qM hk) (h.1 hbw)
      obtain⟨es,σ',h1,h2,h3⟩:=mQ hT hK (rS hs' o.dst e)
      refine⟨e :: es,σ',.cons ⟨hd',?_⟩ h1,by simpa using h2,h3⟩
      rw[hg]
      exact⟨g,hgs,.inl ⟨b,hb0,.inl ⟨hbw,fresh σ.mem,fun k hk=>by rw[<-hs.2]; exact qM hk,hsok.same (fun d=>(hs'.1 d).symm) (fun k=>(hs'.2 k).symm)⟩⟩⟩
     ·have hbw':b=!want:=by cases b<;>cases want<;>simp_all
      have hs':gh σ0 ⟨(g,.sc (.bool (!want))) :: σ.tmps,σ.mem⟩:=⟨fun d=>((H9 (v:=.sc (.bool (!want))) (hbw' ▸ hb)).1 d).trans (hs.1 d),hs.2⟩
      obtain⟨es,σ',h1,h2,h3⟩:=mQ hT (h.2 hbw') (rS hs' o.dst .skip)
      refine⟨.skip :: es,σ',.cons ⟨hd',?_⟩ h1,by simpa using h2,h3⟩
      rw[hg]
      exact⟨g,hgs,.inl ⟨b,hb0,.inr ⟨hbw',rfl⟩⟩⟩
    ·rename_i vs hb
     obtain⟨es,σ',h1,h2,h3⟩:=mQ hT h (rS hs o.dst .skip)
     refine⟨.skip :: es,σ',.cons ⟨hd',?_⟩ h1,by simpa using h2,h3⟩
     rw[hg]
     exact⟨g,hgs,.inr ⟨⟨vs,by rw[<-hs.1]; exact hb⟩,rfl⟩⟩
    ·exact h.elim
   ·exact h.elim
section
variable {P:Program} {c:Cx} [Nonempty (CG P c)] {ops:List Oper}
theorem QU {σ:St} {Γ:aC} {a:Act} {w:World} (hs:aH c σ Γ a w) {j g:Nat} {b:Bool} (hg:qz ops j=some g) (hb:look σ.tmps g=some (.sc (.bool b))):yielded ops.toArray a.tmps j=some b:=by
 obtain⟨u,h1,h2⟩:=hs.tm g _ hb
 have h2':u=.bool b:=h2.1
 subst h2'
 unfold qz at hg
 simp only[yielded,getElem?_toArray,hg,Option.bind_some,h1]
theorem Ob.step {σ0 σ:St} {o:Oper} {e:bb} (h:Ob P c ops σ0 o e) {Γ:aC} {a:Act} {w:World} (hs:aH c σ Γ a w) (ht:∀t ∈ kG o,look σ.tmps t=look σ0.tmps t)
  (hg:∀j want g,o.guard=some (j,want)->qz ops j=some g->look σ.tmps g=look σ0.tmps g) (hm:∀k,k ∈ e.j3.map (·.1)++e.rd->look σ.mem k=look σ0.mem k)
  {K:Act->World->Prop} {Q:Exit->Act->World->Prop} (hK:∀ Γ' a' w',aH c (σ.app o.dst e) Γ' a' w'->K a' w') :
  if Region.wanted o (yielded ops.toArray a.tmps) then o.wp P a w K Q else K (a.put o.dst undef) w:=by
 obtain⟨hd,h⟩:=h
 have hsok:∀nx,(∀k,nx<=k->look σ0.mem k=none)->aT P c (look σ0.tmps) (look σ0.mem) nx o e->o.wp P a w K Q:=by
  intro nx hnx ⟨h1,h2⟩
  refine h2 σ Γ a w hs ht (fun k hk=>hm k (mem_append.2 (.inr hk))) (fun p hp hn=>?_) hd K Q hK
  rw[hm p.1 (mem_append.2 (.inl (mem_map.2 ⟨p,hp,rfl⟩)))]
  exact hnx _ ((h1 p hp).resolve_right hn)
 split at h
 ·rename_i hgd
  obtain⟨nx,hnx,hsk⟩:=h
  rw[if_pos (by simp[Region.wanted,hgd])]
  exact hsok nx hnx hsk
 ·rename_i j want hgd
  have hskip:e=.skip->Region.wanted o (yielded ops.toArray a.tmps)=false->(if Region.wanted o (yielded ops.toArray a.tmps) then o.wp P a w K Q else K (a.put o.dst undef) w):=by
   rintro rfl hw
   rw[hw,if_neg ah]
   refine hK Γ _ _ ?_
   have:=hs.put (d:=o.dst) (v:=.dY []) (u:=undef) ⟨[],rfl,trivial⟩ (fun x hx=>hd x hx)
   unfold St.app
   cases hdst:o.dst<;>simp only[hdst,St.put,bb.skip,nil_append] at this ⊢<;>exact this
  obtain⟨g,h1,⟨b,h2,h3⟩|⟨⟨vs,h2⟩,rfl⟩⟩:=h
  rotate_left
  ·refine hskip rfl ?_
   have hnone:yielded ops.toArray a.tmps j=none:=by
    obtain⟨u,g1,us,rfl,_⟩:=hs.tm g _ ((hg j want g hgd h1).trans h2)
    unfold qz at h1
    simp only[yielded,getElem?_toArray,h1,Option.bind_some,g1]
   simp[Region.wanted,hgd,hnone]
  have hy:=QU hs h1 ((hg j want g hgd h1).trans h2)
  rcases h3 with ⟨rfl,nx,hnx,hsk⟩|⟨rfl,rfl⟩
  ·rw[if_pos (by simp[Region.wanted,hgd,hy])]
   exact hsok nx hnx hsk
  ·exact hskip rfl (by simp[Region.wanted,hgd,hy])
theorem xO {Q:Exit->Act->World->Prop}:∀{os:List Oper} {es:List bb} {σ:St} {Γ:aC} {a:Act} {w:World},qs P c ops σ os es->aH c σ Γ a w->(∀ Γ' a' w',aH c (vB σ (os.zip es)) Γ' a' w'->Q .normal a' w')->wpList P ops.toArray Q os a w
 | [],_,σ,Γ,a,w,.nil _,hs,hQ=>hQ Γ a w hs
 | o :: os,e :: es,σ,Γ,a,w,.cons h1 h2,hs,hQ=>by
  refine wpList_step fun K hK=>?_
  exact h1.step hs (fun _ _=>rfl) (fun _ _ _ _ _=>rfl) (fun _ _=>rfl) fun Γ' a' w' hs'=>hK _ _ (xO h2 hs' hQ)
def ez (f:Nat->Bool):Nat->St->List (Oper × bb)->St
 | _,σ,[]=>σ
 | i,σ,(o,e) :: l=>ez f (i+1) (cond (f i) (σ.app o.dst e) σ) l
theorem uK {σ:St} {d:Option Nat} {e:bb} {x:Nat} (h:d ≠ some x):look (σ.app d e).tmps x=look σ.tmps x:=by
 cases d with
 | none=>rfl
 | some d=>exact aG _ _ (fun hx=>h (by rw[hx]))
theorem Ba {L:Mm} {k:Nat} (h:k ∉ L.map (·.1)):look L k=none:=by
 cases hl:look L k with
 | none=>rfl
 | some B=>obtain⟨q,hq,e⟩:=fM hl; exact absurd (mem_map.2 ⟨q,hq,e⟩) h
theorem JY {σ:St} {d:Option Nat} {e:bb} {k:Nat}:look (σ.app d e).mem k=(look e.j3 k).or (look σ.mem k):=by
 cases d<;>simp only[St.app,a8]
theorem Ek {f f':Nat->Bool} {d:Nat}:∀{l:List (Oper × bb)} {i0:Nat} {σ σ':St},(∀i o e,l[i]? = some (o,e)->o.dst=some d->f (i0+i)=f' (i0+i))->look σ.tmps d=look σ'.tmps d->look (ez f i0 σ l).tmps d=look (ez f' i0 σ' l).tmps d
 | [],_,_,_,_,h=>h
 | (o,e) :: l,i0,σ,σ',hf,h=>by
  show look (ez f (i0+1) _ l).tmps d=look (ez f' (i0+1) _ l).tmps d
  refine Ek (fun i o' e' hi ho=>by have:=hf (i+1) o' e' (by simpa using hi) ho; rw[show i0+1+i=i0+(i+1) from J]; exact this) ?_
  have h0:=hf 0 o e rfl
  by_cases hd:o.dst=some d
  ·have h00:=h0 hd
   simp only[add_zero] at h00
   rw[h00]
   cases f' i0 with
   | false=>exact h
   | true=>simp only[cond_true,St.app,hd,aD]
  ·have e1:∀(b:Bool) (τ:St),look (cond b (τ.app o.dst e) τ).tmps d=look τ.tmps d:=by
    intro b τ; cases b with
    | false=>rfl
    | true=>exact uK hd
   rw[e1,e1]; exact h
theorem En {f f':Nat->Bool} {k:Nat}:∀{l:List (Oper × bb)} {i0:Nat} {σ σ':St},(∀i o e,l[i]? = some (o,e)->k ∈ e.j3.map (·.1)->f (i0+i)=f' (i0+i))->look σ.mem k=look σ'.mem k->look (ez f i0 σ l).mem k=look (ez f' i0 σ' l).mem k
 | [],_,_,_,_,h=>h
 | (o,e) :: l,i0,σ,σ',hf,h=>by
  show look (ez f (i0+1) _ l).mem k=look (ez f' (i0+1) _ l).mem k
  refine En (fun i o' e' hi ho=>by have:=hf (i+1) o' e' (by simpa using hi) ho; rw[show i0+1+i=i0+(i+1) from J]; exact this) ?_
  have h0:=hf 0 o e rfl
  by_cases hd:k ∈ e.j3.map (·.1)
  ·have h00:=h0 hd
   simp only[add_zero] at h00
   rw[h00]
   cases f' i0 with
   | false=>exact h
   | true=>simp only[cond_true,JY,h]
  ·have e1:∀(b:Bool) (τ:St),look (cond b (τ.app o.dst e) τ).mem k=look τ.mem k:=by
    intro b τ; cases b with
    | false=>rfl
    | true=>simp only[cond_true,JY,Ba hd,Option.none_or]
   rw[e1,e1]; exact h
def O6 (d d':Option Nat) (e e':bb):Prop:=(∀x,d=some x->d' ≠ some x)/\∀k ∈ e.j3.map (·.1),k ∉ e'.j3.map (·.1)
theorem VD {σ:St} {d d':Option Nat} {e e':bb} (h:O6 d d' e e'):gh ((σ.app d e).app d' e') ((σ.app d' e').app d e):=by
 refine⟨fun x=>?_,fun k=>?_⟩
 ·by_cases h1:d=some x
  ·subst h1
   have h2:=h.1 x rfl
   rw[uK (σ:=σ.app (some x) e) h2]
   simp only[St.app,aD]
  ·rw[uK h1]
   by_cases h2:d'=some x
   ·subst h2; simp only[St.app,aD]
   ·rw[uK h2,uK h2,uK h1]
 ·simp only[JY]
  by_cases hk:k ∈ e.j3.map (·.1)
  ·rw[Ba (h.2 k hk)]; simp
  ·rw[Ba hk]; simp
theorem gh.trans' {a b d:St} (h:gh a b) (k:gh b d):gh a d:=⟨fun x=>(k.1 x).trans (h.1 x),fun x=>(k.2 x).trans (h.2 x)⟩
theorem gh.DY {a:St}:gh a a:=⟨fun _=>rfl,fun _=>rfl⟩
theorem F8 {f:Nat->Bool}:∀{l:List (Oper × bb)} {i0:Nat} {σ σ':St},gh σ σ'->gh (ez f i0 σ l) (ez f i0 σ' l)
 | [],_,_,_,h=>h
 | (o,e) :: l,i0,σ,σ',h=>by
  refine F8 (l:=l) ?_
  cases f i0 with
  | false=>exact h
  | true=>exact rS h _ _
theorem JH {f:Nat->Bool} {d:Option Nat} {e:bb}:∀{l:List (Oper × bb)} {i0:Nat} {σ:St},(∀i o e',l[i]? = some (o,e')->f (i0+i)=true->O6 d o.dst e e')->gh (ez f i0 (σ.app d e) l) ((ez f i0 σ l).app d e)
 | [],_,_,_=>gh.DY
 | (o,e') :: l,i0,σ,h=>by
  have ih:=fun τ=>JH (l:=l) (i0:=i0+1) (σ:=τ) (f:=f) (d:=d) (e:=e) (fun i o e' hi hf=>h (i+1) o e' (by simpa using hi) (by rw[show i0+(i+1)=i0+1+i from J]; exact hf))
  simp only[ez]
  cases hf:f i0 with
  | false=>exact ih σ
  | true =>
   simp only[cond_true]
   exact (F8 (VD (h 0 o e' rfl (by simpa using hf)))).trans' (ih _)
theorem Jo {f:Nat->Bool} {i:Nat} (hfi:f i=false):∀{l:List (Oper × bb)} {i0:Nat} {σ:St} {o:Oper} {e:bb},i0<=i->l[i - i0]? = some (o,e)->(∀j o' e',l[j]? = some (o',e')->f (i0+j)=true->i < i0+j->O6 o.dst o'.dst e e') →
  gh (ez (fun j=>f j || j == i) i0 σ l) ((ez f i0 σ l).app o.dst e)
 | [],_,_,_,_,_,h,_=>by simp at h
 | (o1,e1) :: l,i0,σ,o,e,hle,h,ha=>by
  simp only[ez]
  rcases Nat.lt_or_eq_of_le hle with hlt|rfl
  ·have hne:(i0 == i)=false:=by simp; omega
   rw[hne,Bool.or_false]
   refine Jo hfi J ?_ fun j o' e' hj hf hji=>ha (j+1) o' e' (by simpa using hj) (by rw[show i0+(j+1)=i0+1+j from J]; exact hf) J
   rw[show i - i0=(i - (i0+1))+1 from J] at h
   simpa using h
  ·simp only[Nat.sub_self,List.getElem?_cons_zero,Option.some.injEq,Prod.mk.injEq] at h
   obtain⟨rfl,rfl⟩:=h
   rw[hfi]
   simp only[beq_self_eq_true,Bool.or_true,cond_true,cond_false]
   have h1:gh (ez (fun j=>f j || j == i0) (i0+1) (σ.app o1.dst e1) l) (ez f (i0+1) (σ.app o1.dst e1) l):=by
    refine⟨fun d=>(Ek (fun j o' e' hj _=>?_) rfl).symm,fun k=>(En (fun j o' e' hj _=>?_) rfl).symm⟩<;>(have:(i0+1+j == i0)=false:=by simp; omega)<;>rw[this,Bool.or_false]
   exact h1.trans' (JH fun j o' e' hj hf=>ha (j+1) o' e' (by simpa using hj) (by rw[show i0+(j+1)=i0+1+j from J]; exact hf) J)
theorem NO:∀{os:List Oper} {es:List bb} {σ:St} {i0:Nat},qs P c ops σ os es->∀i o e,(os.zip es)[i]? = some (o,e)->Ob P c ops (ez (fun j=>decide (j < i0+i)) i0 σ (os.zip es)) o e
 | [],_,_,_,.nil _,i,o,e,h=>by simp at h
 | o1 :: os,e1 :: es,σ,i0,.cons h1 h2,i,o,e,h=>by
  cases i with
  | zero =>
   simp at h
   obtain⟨rfl,rfl⟩:=h
   have h0:∀(l:List (Oper × bb)) (k:Nat),i0<=k->ez (fun j=>decide (j < i0+0)) k σ l=σ:=by
    intro l
    induction l with
    | nil=>intros; rfl
    | cons x l ih =>
     intro k hk
     have:decide (k < i0+0)=false:=by simp; omega
     simp only[ez,this,cond_false]
     exact ih _ J
   rw[h0 _ _ (le_refl _)]; exact h1
  | succ i =>
   have:=NO (i0:=i0+1) h2 i o e (by simpa using h)
   simp only[List.zip_cons_cons,ez]
   have hd:decide (i0 < i0+(i+1))=true:=by simp
   rw[hd]
   simp only[cond_true]
   have he:(fun j=>decide (j < i0+(i+1)))=fun j=>decide (j < i0+1+i):=by funext j; congr 1; rw[show i0+(i+1)=i0+1+i from J]
   rw[he]; exact this
end
def mask (acc:List Nat) (o:Oper):Nat:=o.after.toList.foldl (fun s e=>if Region.binds .any e then s ||| 2 ^ e.on ||| acc.getD e.on 0 else s) 0
def ml (ops:List Oper):List Nat:=ops.foldl (fun acc o=>acc++[mask acc o]) []
def rT (ops:List Oper) (o:Oper):List Nat:=kG o++(match o.guard with|some (j,_)=>(qz ops j).toList|none=>[])
def inter (a b:List Nat):Bool:=a.any fun x=>b.contains x
def kE (ops:List Oper) (o o':Oper) (t t':List Nat × List Nat):Bool :=
 (match o.dst with|some d=>(rT ops o').contains d || o'.dst == some d|none=>false) ||
 (match o'.dst with|some d=>(rT ops o).contains d|none=>false) || inter t.1 t'.2 || inter t'.1 t.2
def NZ (ops:List Oper):Bool:=ops.zipIdx.all fun x=>x.1.after.toList.all fun e=>!Region.binds .any e || decide (e.on < x.2)
def mH (ops:List Oper) (tr:Tr):Bool :=
 NZ ops && (ops.zip tr).zipIdx.all fun y=>(ops.zip tr).zipIdx.all fun x=>!decide (x.2 < y.2) || !kE ops x.1.1 y.1.1 x.1.2 y.1.2 || ((ml ops).getD y.2 0).testBit x.2
theorem VN (ops:List Oper):(ml ops).length=ops.length:=by
 unfold ml
 have:∀(l:List Oper) (acc:List Nat),(l.foldl (fun acc o=>acc++[mask acc o]) acc).length=acc.length+l.length:=by
  intro l
  induction l with
  | nil=>intro acc; rfl
  | cons o l ih=>intro acc; rw[foldl_cons,ih]; simp; omega
 simpa using this ops []
theorem TY {acc:List Nat} {o:Oper} {i:Nat} (h:(mask acc o).testBit i=true):∃e ∈ o.after.toList,Region.binds .any e=true/\(e.on=i\/(acc.getD e.on 0).testBit i=true):=by
 unfold mask at h
 have:∀(l:List Edge) (s:Nat),(l.foldl (fun s e=>if Region.binds .any e then s ||| 2 ^ e.on ||| acc.getD e.on 0 else s) s).testBit i=true->s.testBit i=true\/∃e ∈ l,Region.binds .any e=true/\(e.on=i\/(acc.getD e.on 0).testBit i=true):=by
  intro l
  induction l with
  | nil=>intro s h; exact .inl h
  | cons e l ih =>
   intro s h
   rw[foldl_cons] at h
   rcases ih _ h with h|⟨e',he',h⟩
   ·by_cases hb:Region.binds .any e=true
    ·rw[if_pos hb,Nat.testBit_or,Nat.testBit_or,Nat.testBit_two_pow] at h
     simp only[Bool.or_eq_true,decide_eq_true_eq] at h
     rcases h with (h|h)|h
     ·exact .inl h
     ·exact .inr ⟨e,mem_cons_self,hb,.inl h⟩
     ·exact .inr ⟨e,mem_cons_self,hb,.inr h⟩
    ·rw[if_neg hb] at h; exact .inl h
   ·exact .inr ⟨e',mem_cons_of_mem _ he',h⟩
 rcases this _ 0 h with h|h
 ·simp at h
 ·exact h
theorem FP {ops:List Oper} {L:Nat->Bool} (hL:∀j o,ops[j]? = some o->L j=true->∀e ∈ o.after.toList,Region.binds .any e=true->L e.on=true) :
  ∀(n j i:Nat) (o:Oper),n<=ops.length->j < n->ops[j]? = some o->(∀e ∈ o.after.toList,Region.binds .any e=true->L e.on=true)->((ml (ops.take n)).getD j 0).testBit i=true->L i=true:=by
 intro n
 induction n with
 | zero=>intro j i o _ h; omega
 | succ n ih =>
  intro j i o hn hj ho he hb
  have ht:ml (ops.take (n+1))=ml (ops.take n)++[mask (ml (ops.take n)) ops[n]]:=by
   rw[List.take_succ_eq_append_getElem J]
   simp only[ml,List.foldl_append,foldl_cons,List.foldl_nil]
  have hlen:(ml (ops.take n)).length=n:=by rw[VN,length_take]; omega
  rw[ht] at hb
  rcases lt_or_ge j n with hjn|hjn
  ·rw[getD_eq_getElem?_getD,getElem?_append_left J,<-getD_eq_getElem?_getD] at hb
   exact ih j i o J hjn ho he hb
  ·have:j=n:=J
   subst this
   rw[getD_eq_getElem?_getD,getElem?_append_right J,hlen] at hb
   simp only[Nat.sub_self,List.getElem?_cons_zero,getD_some] at hb
   have hoo:o=ops[j]:=by rw[getElem?_eq_getElem J] at ho; injection ho with ho; exact ho.symm
   subst hoo
   obtain⟨e,hem,hbd,hor⟩:=TY hb
   rcases hor with rfl|hor
   ·exact he e hem hbd
   ·have hLe:=he e hem hbd
    have hlt:e.on < j:=by
     rcases lt_or_ge e.on j with h|h
     ·exact h
     ·rw[getD_eq_getElem?_getD,List.getElem?_eq_none J] at hor; simp at hor
    exact ih e.on i ops[e.on] J hlt (getElem?_eq_getElem J) (hL e.on _ (getElem?_eq_getElem J) hLe) hor
section
variable {P:Program} {c:Cx} [Nonempty (CG P c)] {ops:List Oper}
theorem Jf:∀{os:List Oper} {es:List bb} {σ:St},qs P c ops σ os es->es.length=os.length
 | [],_,_,.nil _=>rfl
 | _ :: _,_ :: _,_,.cons _ h=>by simp[Jf h]
theorem IL {f:Nat->Bool}:∀{l:List (Oper × bb)} {i0:Nat} {σ:St},(∀i,i < l.length->f (i0+i)=true)->ez f i0 σ l=vB σ l
 | [],_,_,_=>rfl
 | (o,e) :: l,i0,σ,h=>by
  have h0:=h 0 ah
  simp only[add_zero] at h0
  simp only[ez,vB,h0,cond_true]
  exact IL fun i hi=>by rw[show i0+1+i=i0+(i+1) from J]; exact h _ (by simp; omega)
theorem Fu {tr:Tr} (hok:mH ops tr=true) {i j:Nat} {o o':Oper} {t t':List Nat × List Nat} (hij:i < j) (hi:ops[i]? = some o) (hj:ops[j]? = some o') (ti:tr[i]? = some t) (tj:tr[j]? = some t')
  (hc:kE ops o o' t t'=true):((ml ops).getD j 0).testBit i=true:=by
 simp only[mH,Bool.and_eq_true] at hok
 have h2:=hok.2
 rw[all_eq_true] at h2
 have m1:((o',t'),j) ∈ (ops.zip tr).zipIdx:=List.mk_mem_zipIdx_iff_getElem?.2 (by rw[getElem?_zip_eq_some]; exact⟨hj,tj⟩)
 have m2:((o,t),i) ∈ (ops.zip tr).zipIdx:=List.mk_mem_zipIdx_iff_getElem?.2 (by rw[getElem?_zip_eq_some]; exact⟨hi,ti⟩)
 have h3:=h2 _ m1
 rw[all_eq_true] at h3
 have h4:=h3 _ m2
 simp only[hij,decide_true,Bool.not_true,Bool.false_or,hc] at h4
 exact h4
theorem OI {tr:Tr} (hok:mH ops tr=true) {i:Nat} {o:Oper} (hi:ops[i]? = some o) {e:Edge} (he:e ∈ o.after.toList) (hb:Region.binds .any e=true):e.on < i:=by
 simp only[mH,Bool.and_eq_true,NZ] at hok
 have h1:=hok.1
 rw[all_eq_true] at h1
 have:=h1 (o,i) (List.mk_mem_zipIdx_iff_getElem?.2 hi)
 rw[all_eq_true] at this
 have:=this e he
 simpa [hb] using this
theorem mem_ready {listed:Array Bool} {i:Nat}:i ∈ Region.ready .any ops.toArray listed ↔ i < ops.length/\listed.getD i true=false/\∃o,ops[i]? = some o/\∀e ∈ o.after.toList,Region.binds .any e=true->listed.getD e.on false=true:=by
 unfold Region.ready
 simp only[size_toArray,mem_filter,mem_range,Bool.and_eq_true,not_eq_true',getElem?_toArray]
 refine and_congr_right fun hi=>and_congr_right fun _=>?_
 rw[getElem?_eq_getElem hi]
 simp only[map_some,getD_some,Option.some.injEq,exists_eq_left']
 rw[<-Array.all_toList,all_eq_true]
 refine forall_congr' fun e=>?_
 refine imp_congr_right fun _=>?_
 cases hb:Region.binds .any e<;>simp
theorem Fh {a b:List Nat} {k:Nat} (h1:k ∈ a) (h2:k ∈ b):inter a b=true:=List.any_eq_true.2 ⟨k,h1,by simpa using h2⟩
def E9 (n:Nat) (listed:Array Bool):List Nat:=(List.range n).filter fun i=>!listed.getD i true
theorem rX {a:Array Bool} {i j:Nat} {d:Bool} (hi:i < a.size):(a.setIfInBounds i true).getD j d=if j=i then true else a.getD j d:=by
 rw[getD_eq_getD_getElem?,getD_eq_getD_getElem?]
 by_cases h:j=i
 ·subst h; rw[Array.getElem?_setIfInBounds_self_of_lt hi]; simp
 ·rw[Array.getElem?_setIfInBounds_ne (Ne.symm h)]; simp[h]
theorem Rl {a:Array Bool} {i:Nat} (h:i < a.size):a.getD i true=a.getD i false:=by
 rw[getD_eq_getD_getElem?,getD_eq_getD_getElem?,Array.getElem?_eq_getElem h]; rfl
theorem PD {Q:Exit->Act->World->Prop} {σ0:St} {es:List bb} (hw:qs P c ops σ0 ops es) (hok:mH ops (es.map bb.te)=true) (hQ:∀ Γ' a' w',aH c (vB σ0 (ops.zip es)) Γ' a' w'->Q .normal a' w') :
  ∀(fuel:Nat) (listed:Array Bool) (a:Act) (w:World) (Γ:aC),listed.size=ops.length->(∀j o,ops[j]? = some o->listed.getD j false=true->∀e ∈ o.after.toList,Region.binds .any e=true->listed.getD e.on false=true) →
   (E9 ops.length listed).length<=fuel->aH c (ez (fun i=>listed.getD i false) 0 σ0 (ops.zip es)) Γ a w->wpAny P .any ops.toArray Q fuel listed a w:=by
 have hlen:=Jf hw
 have hdone:∀(listed:Array Bool) (a:Act) (w:World) (Γ:aC),listed.size=ops.length->aH c (ez (fun i=>listed.getD i false) 0 σ0 (ops.zip es)) Γ a w->Region.ready .any ops.toArray listed=[]->Q .normal a w:=by
  intro listed a w Γ hsz hs hr
  have hall:∀i,i < ops.length->listed.getD i false=true:=by
   intro i
   induction i using Nat.strongRecOn with
   | _ i ih =>
    intro hi
    cases hl:listed.getD i false with
    | true=>rfl
    | false =>
     exfalso
     have:i ∈ Region.ready .any ops.toArray listed:=by
      refine mem_ready.2 ⟨hi,by rw[Rl J]; exact hl,_,getElem?_eq_getElem hi,fun e he hb=>?_⟩
      have hlt:=OI hok (getElem?_eq_getElem hi) he hb
      exact ih _ hlt J
     rw[hr] at this; cases this
  rw[IL fun i hi=>by rw[zero_add]; exact hall i (by simp at hi; omega)] at hs
  exact hQ Γ a w hs
 intro fuel
 induction fuel with
 | zero =>
  intro listed a w Γ hsz hcl hun hs
  have hr:Region.ready .any ops.toArray listed=[]:=by
   refine List.eq_nil_iff_forall_not_mem.2 fun i hi=>?_
   obtain⟨h1,h2,_⟩:=mem_ready.1 hi
   have:i ∈ E9 ops.length listed:=mem_filter.2 ⟨mem_range.2 h1,by rw[h2]; rfl⟩
   rw[List.eq_nil_of_length_eq_zero (Nat.le_zero.1 hun)] at this
   cases this
  exact⟨hr,hdone listed a w Γ hsz hs hr⟩
 | succ fuel ih =>
  intro listed a w Γ hsz hcl hun hs
  refine⟨hdone listed a w Γ hsz hs,fun i hi=>?_⟩
  obtain⟨h1,h2,o,ho,hedge⟩:=mem_ready.1 hi
  have hfi:listed.getD i false=false:=by rw[<-Rl J]; exact h2
  have hie:i < es.length:=J
  have he:es[i]? = some es[i]:=getElem?_eq_getElem hie
  have hz:(ops.zip es)[i]? = some (o,es[i]):=by rw[getElem?_zip_eq_some]; exact⟨ho,he⟩
  have hwent:=NO (i0:=0) hw i o es[i] hz
  simp only[zero_add] at hwent
  have hte:(es.map bb.te)[i]? = some es[i].te:=by rw[getElem?_map,he]; rfl
  have hbef:∀j oj ej,(ops.zip es)[j]? = some (oj,ej)->j < i->kE ops oj o ej.te es[i].te=true->listed.getD j false=true:=by
   intro j oj ej hj hji hc
   rw[getElem?_zip_eq_some] at hj
   have hb:=Fu hok hji hj.1 ho (by rw[getElem?_map,hj.2]; rfl) hte hc
   have:=FP (L:=fun i=>listed.getD i false) hcl ops.length i j o (le_refl _) h1 ho hedge (by rw[List.take_length]; exact hb)
   exact this
  have haft:∀j oj ej,(ops.zip es)[j]? = some (oj,ej)->i < j->kE ops o oj es[i].te ej.te=true->listed.getD j false=false:=by
   intro j oj ej hj hij hc
   rw[getElem?_zip_eq_some] at hj
   have hb:=Fu hok hij ho hj.1 hte (by rw[getElem?_map,hj.2]; rfl) hc
   cases hl:listed.getD j false with
   | false=>rfl
   | true =>
    have hjl:=(List.getElem?_eq_some_iff.1 hj.1).1
    have:=FP (L:=fun i=>listed.getD i false) hcl ops.length j i oj (le_refl _) hjl hj.1 (hcl j oj hj.1 hl) (by rw[List.take_length]; exact hb)
    rw[show listed.getD i false=true from this] at hfi; cases hfi
  have hagT:∀d,d ∈ rT ops o->look (ez (fun i=>listed.getD i false) 0 σ0 (ops.zip es)).tmps d=look (ez (fun j=>decide (j < i)) 0 σ0 (ops.zip es)).tmps d:=by
   intro d hd
   refine Ek (fun j oj ej hj hdj=>?_) rfl
   rw[zero_add]
   rcases Nat.lt_trichotomy j i with hji|rfl|hij
   ·rw[hbef j oj ej hj hji (by simp[kE,hdj,hd])]; simp[hji]
   ·rw[hfi]; simp
   ·rw[haft j oj ej hj hij (by simp[kE,hdj,hd])]; simp; omega
  have hagM:∀k,k ∈ es[i].j3.map (·.1)++es[i].rd->look (ez (fun i=>listed.getD i false) 0 σ0 (ops.zip es)).mem k=look (ez (fun j=>decide (j < i)) 0 σ0 (ops.zip es)).mem k:=by
   intro k hk
   refine En (fun j oj ej hj hkj=>?_) rfl
   rw[zero_add]
   have hin:inter ej.te.1 es[i].te.2=true:=Fh hkj hk
   rcases Nat.lt_trichotomy j i with hji|rfl|hij
   ·rw[hbef j oj ej hj hji (by simp[kE,hin])]; simp[hji]
   ·rw[hfi]; simp
   ·rw[haft j oj ej hj hij (by simp[kE,hin])]; simp; omega
  have hins:=Jo (f:=fun i=>listed.getD i false) hfi (l:=ops.zip es) (i0:=0) (σ:=σ0) (zero_le _) hz fun j oj ej hj hf hij=>by
   rw[zero_add] at hf hij
   refine⟨fun x hx hx'=>?_,fun k hk hk'=>?_⟩
   ·have:=haft j oj ej hj hij (by simp[kE,hx,hx'])
    rw[hf] at this; cases this
   ·have hin:inter es[i].te.1 ej.te.2=true:=Fh hk (mem_append.2 (.inl hk'))
    have:=haft j oj ej hj hij (by simp[kE,hin])
    rw[hf] at this; cases this
  unfold wpOp
  rw[getElem?_toArray,ho]
  simp only
  have hnext:∀ Γ' a' w',aH c ((ez (fun i=>listed.getD i false) 0 σ0 (ops.zip es)).app o.dst es[i]) Γ' a' w'->wpAny P .any ops.toArray Q fuel (listed.setIfInBounds i true) a' w':=by
   intro Γ' a' w' hs'
   refine ih _ a' w' Γ' (by simp[hsz]) (fun j oj hj hl e he' hb=>?_) ?_ ?_
   ·rw[rX J]
    rw[rX J] at hl
    split
    ·rfl
    ·by_cases hji:j=i
     ·subst hji
      rw[ho] at hj; injection hj with hj; subst hj
      exact hedge e he' hb
     ·rw[if_neg hji] at hl
      exact hcl j oj hj hl e he' hb
   ·have hsub:E9 ops.length (listed.setIfInBounds i true)=(E9 ops.length listed).filter fun j=>!(listed.setIfInBounds i true).getD j true:=by
     unfold E9
     rw[List.filter_filter]
     refine List.filter_congr fun j _=>?_
     rw[rX J]
     by_cases hji:j=i
     ·simp[hji]
     ·simp[hji]
    have hlt:(E9 ops.length (listed.setIfInBounds i true)).length < (E9 ops.length listed).length:=by
     rw[hsub]
     refine List.length_filter_lt_length_iff_exists.2 ⟨i,mem_filter.2 ⟨mem_range.2 h1,by rw[h2]; rfl⟩,?_⟩
     rw[rX J]; simp
    omega
   ·refine hs'.same (gh.trans' ⟨fun d=>(hins.1 d).symm,fun k=>(hins.2 k).symm⟩ ?_)
    have:(fun j=>listed.getD j false || j == i)=fun j=>(listed.setIfInBounds i true).getD j false:=by
     funext j
     rw[rX J]
     by_cases hji:j=i
     ·simp[hji]
     ·simp[hji]
    rw[this]; exact gh.DY
  have hstep:=hwent.step (Q:=Q) (K:=wpAny P .any ops.toArray Q fuel (listed.setIfInBounds i true)) hs (fun t ht=>hagT t (mem_append.2 (.inl ht))) (fun j want g hg hgs=>hagT g (mem_append.2 (.inr (by rw[hg]; simp[hgs])))) hagM hnext
  split
  ·rename_i hwt; rw[if_pos hwt] at hstep; exact .inl hstep
  ·rename_i hwt; rw[if_neg hwt] at hstep; exact hstep
theorem K8 {Q:Exit->Act->World->Prop} {T:TypeId->Option Ty} (hT:bD P T) (hmix:P.follows .mixedOrders=true) {id:Nat} {σ:St} {Γ:aC} {a:Act} {w:World} (hs:aH c σ Γ a w) {QA:St->Prop}
  (h:AO P T c.n ops ops σ [] fun σ' tr=>mH ops tr=true/\QA σ') (hQ:∀ σ' Γ' a' w',QA σ'->aH c σ' Γ' a' w'->Q .normal a' w'):(Code.region id ops.toArray true).wp P Q a w:=by
 obtain⟨es,σ',h1,⟨h2,h3⟩,h4⟩:=mQ hT h gh.DY
 simp only[nil_append] at h2
 refine wp_region_any hmix ?_
 have hs':aH c σ Γ a { w with drawn:=w.drawn+1 }:=hs.frame ⟨rfl,rfl,rfl,le_refl _,fun _ _=>rfl⟩
 refine PD h1 h2 (fun Γ' a' w' hs'=>hQ σ' Γ' a' w' h3 (hs'.same h4)) _ _ a _ Γ ah (fun j o _ hl=>?_) ?_ ?_
 ·rw[getD_eq_getD_getElem?] at hl
  by_cases hj:j < ops.length
  ·simp[hj] at hl
  ·simp[hj] at hl
 ·unfold E9
  refine le_trans (List.length_filter_le _ _) ah
 ·have:∀(l:List (Oper × bb)) (k:Nat) (τ:St),ez (fun i=>(Array.replicate ops.toArray.size false).getD i false) k τ l=τ:=by
   intro l
   induction l with
   | nil=>intros; rfl
   | cons x l ih =>
    intro k τ
    have hf:(Array.replicate ops.toArray.size false).getD k false=false:=by
     rw[getD_eq_getD_getElem?]
     by_cases hk:k < ops.length<;>simp[hk]
    simp only[ez,hf,cond_false]
    exact ih _ _
  rw[this]; exact hs'
theorem Lj {Q:Exit->Act->World->Prop} {T:TypeId->Option Ty} (hT:bD P T) {id:Nat} {σ:St} {Γ:aC} {a:Act} {w:World} (hs:aH c σ Γ a w) {QA:St->Prop}
  (h:AO P T c.n ops ops σ [] fun σ' _=>QA σ') (hQ:∀ σ' Γ' a' w',QA σ'->aH c σ' Γ' a' w'->Q .normal a' w'):(Code.region id ops.toArray false).wp P Q a w:=by
 obtain⟨es,σ',h1,h3,h4⟩:=mQ hT h gh.DY
 exact wp_region_lit (xO h1 hs fun Γ' a' w' hs'=>hQ σ' Γ' a' w' h3 (hs'.same h4))
end
end DW
end Go.Proofs.YtkaclgdhlpphhaaGreat
end
