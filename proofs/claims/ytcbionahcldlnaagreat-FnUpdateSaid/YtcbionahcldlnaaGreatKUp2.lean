/-
  Texts of a proof, one behind another: DwU, DwI, DwK, DwJ, DwL, DwY, DwX, DwZ, DwM.
-/
import Derived.Laws.MakeOwn
import Derived.Laws.Cover3
import Derived.Maps.Keyed
import Derived.Laws.BytesString
import Derived.Lib.ConvBytes
import Derived.Orders
import Derived.Test.YtcbionahcldlnaaGreatKUp1
set_option linter.all false
namespace Go.Proofs.YtcbionahcldlnaaGreat.DW
open Go.RowKit
section
variable {P:Program} {T:TypeId->Option Ty} {c:Cx} [Nonempty (CG P c)] {lt:Nat->Option AV} {lm:Nat->Option Blk} {nx:Nat} {K:Eff->Prop} {o:Oper}
theorem aCallP_ok (hnx:∀ k,nx<=k->lm k=none) {fop:Operand} {xs:Array Operand} {tys:Array TypeId} (ho:o.op=.call { callee:=.value fop,args:=xs,argTypes:=tys }) {f:FuncId} {vs:List AV} (hf:ev lt fop=some (.sc (.func (.func f) #[] #[]))) (hvs:evs lt xs.toList=some vs) (hok:vs.all AV.ok=true) (h:CallP P lm nx K f vs):∃ e,K e/\SOK P c lt lm nx o e:=by
 ·obtain ⟨args,own,res,hfn,hargs,hK⟩:=h
  refine ⟨_,hK,?_⟩
  clear hK
  have hrows:∀ v ∈ vs,∀ k ∈ v.rows,k ∈ vs.flatMap AV.rows:=fun v hv k hk=>List.mem_flatMap.2 ⟨v,hv,hk⟩
  have hrun:∀ (σ:St) (Γ:Asg) (a:Act) (w:World),Sim c σ Γ a w->(∀ t ∈ opnds o,look σ.tmps t=lt t)->(execOp a.eval o).run P w=.ok (.enter f (xs.map a.eval)) w/\All2 (fun v x=>ARep c σ.mem Γ w v (a.eval x)) vs xs.toList:=by
   intro σ Γ a w hs hl
   have hl':∀ x ∈ o.op.operands.toList,∀ t,x=.tmp t->look σ.tmps t=lt t:=fun x hx t e=>hl t (mem_opnds hx e)
   have e1:a.eval fop=_:=(ev_rep hs (hl' fop (by simp [ho,Op.operands,Call.operands])) hf:VRep c σ.mem Γ w _ (a.eval fop)).1
   refine ⟨?_,evs_rep hs (fun x hx=>hl' x (by simp only [ho,Op.operands,Call.operands]; simp; exact .inr (by simpa using hx))) hvs hok⟩
   have h0:=hfn.1 (xs.map a.eval) w
   simp [execOp,ho,resolve,e1,Deferred.ofValue,invoke,h0]
  have hmems:∀ p ∈ (callEff lm nx (vs.flatMap AV.rows) own res).mems,nx<=p.1\/p.1 ∈ (callEff lm nx (vs.flatMap AV.rows) own res).rd:=by
   intro p hp
   unfold callEff at hp ⊢
   split at hp
   ·rename_i d
    cases own with
    | true=>exact .inl (ocel_names p hp).1
    | false =>
     simp only [Bool.false_eq_true,if_false] at hp ⊢
     cases hfl:d.1.flat with
     | true=>simp only [hfl,if_true] at hp; cases hp
     | false =>
      simp only [hfl,Bool.false_eq_true,if_false] at hp ⊢
      exact .inr (frzU_mem hp)
   ·exact .inr (frzU_mem hp)
  have hrd:(callEff lm nx (vs.flatMap AV.rows) own res).rd=vs.flatMap AV.rows:=by
   unfold callEff
   split
   ·split
    ·rfl
    ·split<;>rfl
   ·rfl
  refine ⟨hmems,fun σ Γ a w hs hl hm hn hd K Q hK=>?_⟩
  rw [hrd] at hm hn
  obtain ⟨hr,hv⟩:=hrun σ Γ a w hs hl
  unfold Oper.wp
  rw [hr,Oper.upon_enter]
  have hfin:∀ (σ':St) (Γ':Asg) (w':World) (v:AV) (u:Value),σ'.tmps=σ.tmps->Sim c σ' Γ' a w'->VRep c σ'.mem Γ' w' v u->(callEff lm nx (vs.flatMap AV.rows) own res).v=v->(callEff lm nx (vs.flatMap AV.rows) own res).mems++σ.mem=σ'.mem->K (a.put o.dst u) w':=by
   intro σ' Γ' w' v u e0 hs' hvr e1 e2
   refine hK Γ' _ _ ?_
   have:=hs'.put (d:=o.dst) hvr (fun x hx=>hd x hx)
   unfold St.app
   rw [e1,e2]
   cases hdst:o.dst<;>simp only [hdst,St.put,<-e0] at this ⊢<;>exact this
  have hma:xs.map a.eval=(xs.toList.map a.eval).toArray:=Array.toList_inj.1 (by rw [Array.toList_map])
  rw [hma]
  have hrows':∀ v ∈ vs,∀ k ∈ v.rows,look σ.mem k=lm k:=fun v hv k hk=>hm k (hrows v hv k hk)
  have hnm:∀ b,c.base<=b->w.heap.size<=b->Gd c σ.mem Γ b:=fun b h1 h2=>⟨.inr h1,fun ⟨k,B,hB,hmb⟩=>by have:=(hs.mut_lt hB hmb).2; omega⟩
  cases hap:apartR own res with
  | true =>
   match res,hap with
   | [d],hap =>
    have hda:=all2_dat (S:=fun _=>True) hv hargs (fun v d u hvm hvr hi=>by
     rw [hap] at hi
     have hi:IsV lm d v:=hi
     obtain ⟨fp,h1,_⟩:=hs.isVRep hvr (IsV_congr (hrows' v hvm) hi)
     exact ⟨fp,h1,fun _ _=>trivial⟩)
    refine (hfn.2 w _ _ (cg_gw hs) hda).mono ?_
    rintro e w' ⟨hb,u,rfl,fp,hdr,hown,hfp⟩
    have hs':=hs.frame hb
    cases own with
    | true =>
     have ho:=hown rfl
     obtain ⟨cs,hpk,hrp⟩:=hdr
     have hn':∀ p ∈ (DW.ocel nx d.1 d.2).2,look σ.mem p.1=none:=fun p hp=>by
      by_cases hin:p.1 ∈ vs.flatMap AV.rows
      ·rw [hm p.1 hin]; exact hnx _ (ocel_names p hp).1
      ·exact hn p hp hin
     obtain ⟨Γ',s1,r1,_,_,_⟩:=hs'.ocel (k:=nx) hrp ⟨ho.1,fun b hbb=>⟨.inl (Nat.le_trans hs.hb (ho.2 b hbb).1),(ho.2 b hbb).2⟩⟩ (fun b hbb=>hnm b (Nat.le_trans hs.hb (ho.2 b hbb).1) (ho.2 b hbb).1)
      (fun b hbb j B hj hbo=>by have h1:=hs.ofp_lt hj hbo; have h2:=(ho.2 b hbb).1; omega) hn'
     refine hfin ⟨σ.tmps,(DW.ocel nx d.1 d.2).2++σ.mem⟩ Γ' w' (oav nx d) u rfl s1 ?_ rfl rfl
     unfold oav
     rcases hpk with ⟨hag,rfl⟩|⟨hag,rfl⟩
     ·rw [hag]; exact ⟨cs,rfl,r1⟩
     ·rw [hag]
      obtain ⟨v,hv1⟩:=ocel_one (k:=nx) (x:=d.2) hag
      rw [hv1] at r1 ⊢
      exact crep_vrep r1.1
    | false =>
     have hfl:d.1.flat=true:=by simpa [apartR] using hap
     have hfp0:fp=[]:=by obtain ⟨cs,_,hrp⟩:=hdr; exact flat_rep hfl hrp
     subst hfp0
     refine hfin σ Γ w' (av d.1 d.2) u rfl hs' (arep_vrep (av_rep hdr fun b hbb=>by cases hbb)) ?_ ?_<;>simp [callEff,hfl]
   | [],hap=>cases hap
   | _ :: _ :: _,hap=>cases hap
  | false =>
   have hf':=hs.frz (ks:=vs.flatMap AV.rows)
   have hcongr:frzU (look σ.mem) (vs.flatMap AV.rows)=frzU lm (vs.flatMap AV.rows):=frzU_congr fun k hk=>hm k hk
   rw [hcongr] at hf'
   have hda:=all2_dat (S:=fun b=>Gd c (frzU lm (vs.flatMap AV.rows)++σ.mem) Γ b) (hrun _ Γ a w hf' hl).2 hargs (fun v d u hvm hvr hi=>by
    rw [hap] at hi
    have hi:IsV (fun j=>(look (frzU lm (vs.flatMap AV.rows)) j).or (lm j)) d v:=hi
    obtain ⟨fp,h1,_,h3⟩:=hf'.isVRep hvr (IsV_congr (fun k hk=>by rw [look_app,hrows' v hvm k hk]) hi)
    refine ⟨fp,h1,h3 fun k hk e t v' o' l hrow=>?_⟩
    rw [<-hcongr] at hrow
    exact (frz_no hrow).1 (hrows v hvm k hk))
   refine (hfn.2 w _ _ (cg_gw hs) hda).mono ?_
   rintro e w' ⟨hb,u,rfl,hres⟩
   have hs':=hf'.frame hb
   have hgd:∀ b,Gd c (frzU lm (vs.flatMap AV.rows)++σ.mem) Γ b\/w.heap.size<=b->Gd c (frzU lm (vs.flatMap AV.rows)++σ.mem) Γ b:=fun b hbb=>hbb.elim id fun h2=>⟨.inr (Nat.le_trans hs.hb h2),fun ⟨k,B,hB,hmb⟩=>by have:=(hf'.mut_lt hB hmb).2; omega⟩
   have hone:∀ (u:Value) (d:Dat),DRes false w.heap.size (fun b=>Gd c (frzU lm (vs.flatMap AV.rows)++σ.mem) Γ b) w' u d->ARep c (frzU lm (vs.flatMap AV.rows)++σ.mem) Γ w' (av d.1 d.2) u:=fun u d ⟨fp,hdr,_,hfp⟩=>av_rep hdr fun b hbb=>hgd b (hfp b hbb)
   match res,hap,hres with
   | [d],hap,hres =>
    have hown:own=false:=by cases own<;>simp [apartR] at hap ⊢
    have hfl:d.1.flat=false:=by simpa [apartR,hown] using hap
    subst hown
    refine hfin ⟨σ.tmps,frzU lm (vs.flatMap AV.rows)++σ.mem⟩ Γ w' (av d.1 d.2) u rfl hs' (arep_vrep (hone u d hres)) ?_ ?_<;>simp [callEff,hfl]
   | [],hap,⟨us,hu,hres⟩ =>
    refine hfin ⟨σ.tmps,frzU lm (vs.flatMap AV.rows)++σ.mem⟩ Γ w' (.tup []) u rfl hs' ⟨us,hu,by cases us with|nil=>trivial|cons=>exact hres.elim⟩ ?_ ?_<;>simp [callEff]
   | d1 :: d2 :: ds,hap,⟨us,hu,hres⟩ =>
    refine hfin ⟨σ.tmps,frzU lm (vs.flatMap AV.rows)++σ.mem⟩ Γ w' (.tup ((d1 :: d2 :: ds).map fun d=>av d.1 d.2)) u rfl hs' ⟨us,hu,?_⟩ ?_ ?_
    ·generalize d1 :: d2 :: ds=L at hres
     clear hu
     induction L generalizing us with
     | nil=>cases us with|nil=>trivial|cons=>exact hres.elim
     | cons d L ih=>cases us with
      | nil=>exact hres.elim
      | cons u us=>exact ⟨hone u d hres.1,ih us hres.2⟩
    ·simp [callEff]
    ·simp [callEff]
theorem aCallG_ok (hnx:∀ k,nx<=k->lm k=none) {fop:Operand} {xs:Array Operand} {tys:Array TypeId} (ho:o.op=.call { callee:=.value fop,args:=xs,argTypes:=tys }) {f:FuncId} {vs:List AV} (hf:ev lt fop=some (.sc (.func (.func f) #[] #[]))) (hvs:evs lt xs.toList=some vs) (hok:vs.all AV.ok=true)
  (h:CallG P lm nx K f vs):∃ e,K e/\SOK P c lt lm nx o e:=by
 obtain ⟨args,te,t,l,hfn,hargs,hK⟩:=h
 refine ⟨_,hK,?_⟩
 clear hK
 have hrows:∀ v ∈ vs,∀ k ∈ v.rows,k ∈ vs.flatMap AV.rows:=fun v hv k hk=>List.mem_flatMap.2 ⟨v,hv,hk⟩
 refine ⟨fun p hp=>?_,fun σ Γ a w hs hl hm hn hd K Q hK=>?_⟩
 ·simp only [List.mem_singleton] at hp
  subst hp
  exact .inl (Nat.le_refl _)
 obtain ⟨hr,hv⟩:=call_run ho hf hvs hok hfn.1 σ Γ a w hs hl
 unfold Oper.wp
 rw [hr,Oper.upon_enter]
 have hma:xs.map a.eval=(xs.toList.map a.eval).toArray:=Array.toList_inj.1 (by rw [Array.toList_map])
 rw [hma]
 have hda:=all2_dat (S:=fun _=>True) hv hargs (fun v d u hvm hvr hi=>by
  obtain ⟨fp,h1⟩:=hs.isVRepX hvr (IsV_congr (fun k hk=>by simp only [lmX,hm k (hrows v hvm k hk)]) hi)
  exact ⟨fp,h1,fun _ _=>trivial⟩)
 refine (hfn.2 w _ _ (cg_gw hs) hda).mono ?_
 rintro e w' ⟨hb,u,fps,rfl,h1,hg,hown,hne⟩
 have hk:look σ.mem nx=none:=by
  by_cases hin:nx ∈ vs.flatMap AV.rows
  ·rw [hm nx hin]; exact hnx _ (Nat.le_refl _)
  ·exact hn (nx,.row te t 0 true l) List.mem_cons_self hin
 have hg':GrowF t.rp c.base w' te u l fps:=by
  obtain ⟨xs,⟨g1,g2⟩,g3,g4⟩:=hg
  refine ⟨xs,⟨g1,?_⟩,g3,g4⟩
  rcases g2 with g2|⟨g,cap,cur,q1,q2,q3⟩
  ·exact .inl g2
  ·exact .inr ⟨g,cap,cur,q1,Nat.le_trans hs.hb q2,q3⟩
 have s1:=hs.newRow hk hb hg' (fun b hbo=>(hg.own hbo).1) (fun b hbf=>.inl ⟨(hown.2 b hbf).1,hne b hbf⟩)
  (fun _=>⟨⟨hown.1,fun b hbf=>⟨.inl (Nat.le_trans hs.hb (hown.2 b hbf).1),(hown.2 b hbf).2⟩⟩,fun b hbf j B hj hbo=>by have h1:=hs.ofp_lt hj hbo; have h2:=(hown.2 b hbf).1; omega⟩) (o:=true)
 refine hK (Γ.setR nx u fps.flatten) _ _ ?_
 have:=s1.put (d:=o.dst) (v:=.row nx 0) (u:=u) ⟨h1,_,look_self ..,Nat.le_refl _,fun _=>by rw [Asg.setR_hd]⟩ (fun x hx=>hd x hx)
 unfold St.app
 cases hdst:o.dst<;>simp only [hdst,St.put] at this ⊢<;>exact this
theorem All2.right_map {α β γ:Type} {R:α->γ->Prop} (f:β->γ):∀ {l:List α} {m:List β},All2 (fun a b=>R a (f b)) l m->All2 R l (m.map f)
 | [],[],_=>trivial
 | _ :: _,_ :: _,⟨h1,h2⟩=>⟨h1,All2.right_map f h2⟩
 | [],_ :: _,h=>h.elim
 | _ :: _,[],h=>h.elim
theorem growF_fnil {t:Ty} {base:Nat} {w:World} {e:TypeId} {v:Value} {l:List t.den} {fps:List (List Nat)} (hf:t.flat=true) (h:GrowF t.rp base w e v l fps):fps.flatten=[]:=by
 obtain ⟨xs,_,hl,he⟩:=h
 rw [List.flatten_eq_nil_iff]
 intro f hfm
 obtain ⟨i,hi,rfl⟩:=List.getElem_of_mem hfm
 obtain ⟨f',cs,h1,h2,_⟩:=he i (l[i]'(by omega)) (List.getElem?_eq_getElem (by omega))
 rw [List.getElem?_eq_getElem hi] at h1
 injection h1 with h1
 rw [h1]
 exact flat_rep hf h2
theorem vals_cst {M:Mm} {Γ:Asg} {w:World}:∀ {xs:List Cst} {us:List Value},All2 (fun v u=>ARep c M Γ w v u) (xs.map fun c=>AV.sc c.val) us->us=xs.map Cst.val
 | [],[],_=>rfl
 | x :: xs,u :: us,⟨h1,h2⟩=>by
  have e:u=x.val:=h1.1
  rw [e,vals_cst h2]; rfl
 | [],_ :: _,h=>h.elim
 | _ :: _,[],h=>h.elim
theorem aCallR_ok {fop:Operand} {xs:Array Operand} {tys:Array TypeId} (ho:o.op=.call { callee:=.value fop,args:=xs,argTypes:=tys }) {f:FuncId} {vs:List AV} (hf:ev lt fop=some (.sc (.func (.func f) #[] #[]))) (hvs:evs lt xs.toList=some vs) (hok:vs.all AV.ok=true)
  (h:CallR P lm K f vs):∃ e,K e/\SOK P c lt lm nx o e:=by
 obtain ⟨cx,te,t,l,l',ret,k,ver,oo,hfn,rfl,hk,hK⟩:=h
 refine ⟨_,hK,?_⟩
 clear hK
 refine ⟨fun p hp=>?_,fun σ Γ a w hs hl hm hn hd K Q hK=>?_⟩
 ·rw [List.mem_singleton] at hp; subst hp; exact .inr (List.mem_singleton.2 rfl)
 obtain ⟨hr,hv⟩:=call_run ho hf hvs hok hfn.1 σ Γ a w hs hl
 unfold Oper.wp
 rw [hr,Oper.upon_enter]
 have hma:xs.map a.eval=(xs.toList.map a.eval).toArray:=Array.toList_inj.1 (by rw [Array.toList_map])
 rw [hma]
 have hk':look σ.mem k=some (.row te t ver oo l):=(hm k (List.mem_singleton.2 rfl)).trans hk
 have hv':=hv.right_map a.eval
 generalize xs.toList.map a.eval=us at hv' ⊢
 match us,hv' with
 | u :: us,⟨hv1,hv2⟩ =>
  have hus:=vals_cst hv2
  subst hus
  obtain ⟨h1,B,hB,hh⟩:=hv1
  rw [hk'] at hB; injection hB with hB; subst hB
  have hu2:u=Γ.hd k:=hh.2 rfl
  obtain ⟨fps,hg,hfp,hgds,_⟩:=hs.mm k _ hk'
  subst hu2
  refine (hfn.2 w 0 (Γ.hd k) fps (cg_gw hs) (fun b hb e=>(hgds b (hfp ▸ hb)).2 ⟨k,_,hk',e⟩) (fun g hb g' hg'=>cg_ne (c:=c) (hg.own hb).1.or g' hg') h1 hg.1).mono ?_
  rintro en w' ⟨v',fps',rfl,hrv,h1',hob,hg',hgr,hsub⟩
  have hs2:=hs.updRow (o':=t.flat) (ver':=if ret then ver+1 else ver) (v':=v') hk' hg' hgr (.inl hob)
   (by cases ret with
    | true=>exact .inl rfl
    | false=>exact .inr ⟨rfl,hrv rfl⟩)
   (fun b hb=>⟨hg.lt b (hsub b hb),hgds b (hfp ▸ hsub b hb)⟩) (fun hfl=>by rw [growF_fnil hfl hg']; exact ⟨ownR_nil _ _,fun b hb=>by cases hb⟩)
  refine hK (Γ.setR k v' fps'.flatten) _ _ ?_
  have:=hs2.put (d:=o.dst) (v:=if ret then .row k (ver+1) else .tup []) (u:=if ret then v' else .tuple #[]) (by
   cases ret with
   | true=>exact ⟨h1',_,look_self ..,Nat.le_refl _,fun _=>by rw [Asg.setR_hd]; rfl⟩
   | false=>exact ⟨[],rfl,trivial⟩) (fun x hx=>hd x hx)
  unfold St.app
  cases hdst:o.dst<;>simp only [hdst,St.put] at this ⊢<;>exact this
 | [],h=>exact h.elim
theorem setFst_len {B:Ty} (l:List (Ty.prod .int B).den) (i:Nat) (n:Int):(setFst l i n).length=l.length:=List.length_set
theorem aStoreMine_ok (hT:TabOK P T) {ty:TypeId} {x y:Operand} (ho:o.op=.store ty x y) (h:aStoreMine T lt lm K ty x y):∃ e,K e/\SOK P c lt lm nx o e:=by
 unfold aStoreMine at h
 split at h
 ·rename_i k i s n ht hx hy
  split at h
  ·rename_i B l hk
   obtain ⟨rfl,hi,hK⟩:=h
   refine ⟨_,hK,SOK.one (.inr (by simp)) fun σ Γ a w hs hl hm _=>?_⟩
   have hk':=(hm k (by simp)).trans hk
   obtain ⟨_,B0,hB,hp⟩:=(op_ev hs hl (by simp [ho,Op.operands]) hx:VRep c σ.mem Γ w _ (a.eval x))
   rw [hk'] at hB; injection hB with hB; subst hB
   obtain ⟨g,oo,nn,cap,hhd,hpt⟩:=hp _ _ rfl
   obtain ⟨ey,_,hn⟩:=(op_ev hs hl (x:=y) (by simp [ho,Op.operands]) hy:VRep c σ.mem Γ w _ (a.eval y))
   obtain ⟨hr,hon⟩:=hs.mm k _ hk'
   have hr0:=hr
   rw [hhd] at hr
   obtain ⟨ad,cc,e1,hlc,hcm,h4⟩:=hr
   injection e1 with e1
   injection e1 with e1 e2 e3
   subst e1 e3
   rcases h4 with ⟨rfl,_⟩|⟨b,off,fps,hl0,ha,hfp,hlen,he⟩
   ·simp at hi
   injection ha with ha
   injection ha with ha1 ha2 _
   subst ha1 ha2
   have hsz:(Ty.prod .int B).rp.size=Ty.size (.prod .int B):=Ty.rp_size _
   have hB0:=B.pos
   rw [B.rp_size] at hB0
   have hS:Ty.size (.prod .int B)=1+B.size:=rfl
   have hgm:g ∈ Γ.fp k:=by rw [hfp]; exact List.mem_cons_self
   obtain ⟨cur,ce,hg⟩:=(hon.2 g hgm).2
   rw [hfp] at hon
   have hnd:=List.nodup_cons.1 hon.1
   obtain ⟨f,cs,hfi,hrr,hcs⟩:=he i l[i] (List.getElem?_eq_getElem hi)
   obtain ⟨c1,c2,f1,f2,rfl,rfl,⟨rfl,rfl,_⟩,hr2⟩:=hrr
   have hc2:=B.rp.len hr2
   rw [B.rp_size] at hc2
   have hcell:=hcs 0 (.int .i64 l[i].1) rfl
   rw [hsz,Nat.add_zero,cell_of_row w g _ cur ce (0,0) hg] at hcell
   have hlt:oo+i * Ty.size (.prod .int B) < cur.size:=(Array.getElem?_eq_some_iff.1 hcell).1
   obtain ⟨cur',g1,g2,g3,g4⟩:=putCells_row g ce [.int .i64 n] w (oo+i * Ty.size (.prod .int B)) cur hg (by simp; omega)
   have hoth:∀ b,b ≠ g->(putCells w g (oo+i * Ty.size (.prod .int B)) [.int .i64 n]).heap[b]? = w.heap[b]?:=fun b hb=>putCells_other _ _ _ _ _ (fun e=>hb e)
   have hbel:=putCells_below (B:=g) (w0:=w) g [.int .i64 n] w (oo+i * Ty.size (.prod .int B)) (Below.refl _ _) (Nat.le_refl _)
   generalize hw':putCells w g (oo+i * Ty.size (.prod .int B)) [.int .i64 n]=w' at *
   have hfr:∀ {t:Ty} {x:t.den} {cs:List Value} {f:List Nat},t.rp.rep w cs x f->(∀ b ∈ f,b ∈ fps.flatten)->t.rp.rep w' cs x f:=fun hq hf=>(Ty.rp _).frame hq fun b hb=>hoth b fun e=>hnd.1 (e ▸ hf b hb)
   have hnew:(Rp.slice (Ty.prod .int B).rp (Ty.prod .int B).pos).rep w' [Γ.hd k] (setFst l i n) (Γ.fp k):=by
    rw [hhd]
    refine ⟨some ⟨g,oo,none⟩,cap,by rw [setFst_len,e2],by rw [setFst_len]; exact hlc,hcm,.inr ⟨g,oo,fps,fun e=>?_,rfl,hfp,by rw [setFst_len]; exact hlen,fun j x hx=>?_⟩⟩
    ·have h0:(setFst l i n).length=0:=by rw [e]; rfl
     rw [setFst_len] at h0
     omega
    ·rw [hsz]
     by_cases hji:j=i
     ·subst hji
      have hx2:x=(n,l[j].2):=by
       unfold setFst at hx
       rw [List.getElem?_set_self hi,nth_lt hi] at hx
       injection hx with hx; exact hx.symm
      subst hx2
      refine ⟨[]++f2,[.int .i64 n]++c2,hfi,⟨[.int .i64 n],c2,[],f2,rfl,rfl,⟨rfl,rfl,hn⟩,hfr hr2 fun b hb=>List.mem_flatten.2 ⟨_,List.mem_of_getElem? hfi,by simpa using hb⟩⟩,fun q v hq=>?_⟩
      rw [cell_of_row w' g _ cur' ce (0,0) g1]
      cases q with
      | zero =>
       simp at hq; subst hq
       exact g3 0 _ rfl
      | succ q =>
       rw [g4 _ (.inr (by simp only [List.length_singleton]; omega))]
       have:=hcs (q+1) v (by simpa using hq)
       rw [hsz,cell_of_row w g _ cur ce (0,0) hg] at this
       exact this
     ·have hx2:l[j]? = some x:=by
       unfold setFst at hx
       rwa [List.getElem?_set_ne (fun e=>hji e.symm)] at hx
      obtain ⟨f',cs',hfj,hrj,hcj⟩:=he j x hx2
      have hlj:=(Ty.rp _).len hrj
      rw [hsz] at hlj
      refine ⟨f',cs',hfj,hfr hrj fun b hb=>List.mem_flatten.2 ⟨_,List.mem_of_getElem? hfj,hb⟩,fun q v hq=>?_⟩
      have hql:q < cs'.length:=(List.getElem?_eq_some_iff.1 hq).1
      rw [cell_of_row w' g _ cur' ce (0,0) g1,g4 _ (by
       simp only [List.length_singleton]
       rcases Nat.lt_or_ge j i with h|h
       ·left
        have:=Nat.mul_le_mul_right (Ty.size (.prod .int B)) (show j+1<=i by omega)
        rw [Nat.succ_mul] at this
        omega
       ·right
        have:=Nat.mul_le_mul_right (Ty.size (.prod .int B)) (show i+1<=j by omega)
        rw [Nat.succ_mul] at this
        omega)]
      have:=hcj q v hq
      rw [hsz,cell_of_row w g _ cur ce (0,0) hg] at this
      exact this
   have honw:OwnR c w' (Γ.fp k):=by
    rw [hfp]
    refine ⟨hon.1,fun b hb=>⟨(hon.2 b hb).1,?_⟩⟩
    by_cases hbg:b=g
    ·subst hbg; exact ⟨cur',ce,g1⟩
    ·exact (hon.2 b hb).2.frame (hoth b hbg)
   have tn:Turn c σ Γ w [(k,.mine (.prod .int B) (setFst l i n))] Γ w' (Γ.fp k):=by
    have hkk:∀ {j:Nat} {C:Blk},look [(k,Blk.mine (.prod .int B) (setFst l i n))] j=some C->j=k/\C=.mine (.prod .int B) (setFst l i n):=by
     intro j C h
     by_cases hj:j=k
     ·subst hj; rw [look_self] at h; injection h with h; exact ⟨rfl,h.symm⟩
     ·rw [look_ne _ _ hj] at h; cases h
    refine ⟨fun j C hj=>?_,fun _=>rfl,fun _ _=>⟨rfl,rfl⟩,fun b hb=>⟨k,_,_,by rw [look_self]; simp,hk',hb⟩,hbel.os,hbel.tape,hbel.output,hbel.size,fun b _ hb=>hoth b fun e=>hb (e ▸ hgm),fun j t' l' hj=>?_,fun j j' b hj hj' _ _=>?_⟩
    ·obtain ⟨rfl,rfl⟩:=hkk hj
     exact ⟨_,_,rfl,.inr ⟨⟨_,_,hk'⟩,rfl⟩⟩
    ·obtain ⟨rfl,e⟩:=hkk hj
     injection e with e e'
     subst e
     obtain rfl:=eq_of_heq e'
     exact ⟨hnew,honw,fun b hb=>.inl hb⟩
    ·have h1:j=k:=by
      cases hq:look [(k,Blk.mine (.prod .int B) (setFst l i n))] j with
      | none=>exact absurd hq hj
      | some C=>exact (hkk hq).1
     have h2:j'=k:=by
      cases hq:look [(k,Blk.mine (.prod .int B) (setFst l i n))] j' with
      | none=>exact absurd hq hj'
      | some C=>exact (hkk hq).1
     rw [h1,h2]
   refine ⟨undef,w',Γ,.inr ⟨?_,rfl⟩,hs.turn tn,trivial⟩
   have hst:=run_storeCells' (P:=P) g [.int .i64 n] 0 (oo+i * Ty.size (.prod .int B)) w (fun j hj=>⟨cur[oo+i * Ty.size (.prod .int B)+j]'(by simp at hj; omega),by rw [cell_of_row w _ _ cur ce (0,0) hg,Nat.add_zero,Array.getElem?_eq_getElem]⟩) (fun q=>frozen_of_row w _ q cur ce hg) (fun u hu=>by rw [List.mem_singleton.1 hu]; rfl)
   rw [Nat.add_zero] at hst
   rw [hw'] at hst
   have hcl:(Value.int .i64 n).cells=#[.int .i64 n]:=rfl
   have h1s:Ty.int.size=1:=rfl
   simp only [execOp,ho,hpt,ey,Nat.add_zero,Instr.storeAt,Instr.sureAddr,storeVar,Sem.run_bind,Sem.run_pure,Result.andThen_ok,(hT ty _ ht).sizeOf,hcl,List.size_toArray,List.length_singleton,h1s,ne_eq,not_true_eq_false,if_false]
   rw [hst]; rfl
  ·exact h.elim
 ·exact h.elim
theorem frzU_nob {ks:List Nat}:∀ {lm:Nat->Option Blk} {k:Nat},(lm k).bind Blk.fz=none->look (frzU lm ks) k=none:=by
 induction ks with
 | nil=>intro lm k _; rfl
 | cons j ks ih =>
  intro lm k h
  simp only [frzU]
  split
  ·rename_i B hB
   have hkj:k ≠ j:=by rintro rfl; rw [h] at hB; cases hB
   rw [look_app,ih (by rw [if_neg hkj]; exact h),look_ne _ _ hkj]; rfl
  ·exact ih h
theorem fxd_rep {M:Mm} {Γ:Asg} {w:World} {hd:AV} {u:Value} {t:Ty} {l:List t.den} (h:fxd hd=some ⟨t,l⟩) (hc:CRep c M Γ w hd u):∃ fp,(Rp.slice t.rp t.pos).rep w [u] l fp/\∀ b ∈ fp,Gd c M Γ b:=by
 cases hd with
 | sl s m=>injection h with h; injection h with h1 h2; subst h1; obtain rfl:=eq_of_heq h2; exact hc
 | fx v s m=>injection h with h; injection h with h1 h2; subst h1; obtain rfl:=eq_of_heq h2; exact hc.2
 | _=>cases h
theorem sc_vals {M:Mm} {Γ:Asg} {w:World}:∀ {zs us:List Value},All2 (CRep c M Γ w) (zs.map fun z=>AV.sc z) us->us=zs/\∀ z ∈ zs,okv z
 | [],[],_=>⟨rfl,fun z h=>by cases h⟩
 | z :: zs,u :: us,⟨h1,h2⟩=>by
  obtain ⟨rfl,h3⟩:=sc_vals h2
  obtain ⟨rfl,_,h5⟩:=h1
  exact ⟨rfl,fun x hx=>(List.mem_cons.1 hx).elim (fun e=>e ▸ h5) (h3 x)⟩
 | [],_ :: _,h=>h.elim
 | _ :: _,[],h=>h.elim
theorem vals_sc {M:Mm} {Γ:Asg} {w:World}:∀ {zs:List Value},(∀ z ∈ zs,z.oneCell'=true/\okv z)->All2 (CRep c M Γ w) (zs.map fun z=>AV.sc z) zs
 | [],_=>trivial
 | z :: zs,h=>⟨⟨rfl,(h z List.mem_cons_self).1,(h z List.mem_cons_self).2⟩,vals_sc fun x hx=>h x (List.mem_cons_of_mem _ hx)⟩
theorem Sim.setBox' {σ:St} {Γ:Asg} {a:Act} {w:World} (h:Sim c σ Γ a w) {k:Nat} {x:Option Nat} {cs cs':List AV} {us:Array Value} {e:TypeId} (hk:look σ.mem k=some (.bx x cs)) (hc:All2 (CRep c σ.mem Γ w) cs' us.toList) :
  Sim c ⟨σ.tmps,(k,.bx x cs') :: σ.mem⟩ Γ a { w with heap:=w.heap.setIfInBounds (Γ.loc k x) (.cells us e (0,0)) }:=by
 obtain ⟨hb,cur,e0,hg,hcur⟩:=h.mm k _ hk
 have hlt:Γ.loc k x < w.heap.size:=lt_of_heap hg
 refine h.chg ⟨fun j _=>⟨rfl,rfl,rfl⟩,rfl,rfl,rfl,by simp,fun b _ hm=>?_,fun b hb=>.inr ⟨_,hk,hb⟩,fun b hb=>by simp [Blk.ofp] at hb⟩ ?_ ?_ ?_ ?_
 ·show (w.heap.setIfInBounds _ _)[b]? = _
  rw [Array.getElem?_setIfInBounds_ne]
  intro e; exact hm _ hk e.symm
 ·rintro ver u ⟨_,B,hB,_⟩; rw [hk] at hB; injection hB with hB; subst hB; trivial
 ·rintro ver i off u ⟨h1,B,hB,_⟩; exact ⟨h1,_,look_self ..,fun e t v o l hh=>by cases hh⟩
 ·intro x2 cs2 h2
  rw [hk] at h2
  injection h2 with h2
  injection h2 with h3 h4
  subst h3
  exact ⟨⟨_,rfl⟩,rfl⟩
 ·intro hcr
  refine ⟨hb,us,e,?_,hc.mono fun v u _ hv=>hcr v u hv⟩
  show (w.heap.setIfInBounds _ _)[_]? = _
  rw [Array.getElem?_setIfInBounds_self_of_lt hlt]
theorem aCallC_ok (hnx:∀ k,nx<=k->lm k=none) {fop:Operand} {xs:Array Operand} {tys:Array TypeId} (ho:o.op=.call { callee:=.value fop,args:=xs,argTypes:=tys }) {f:FuncId} {vs:List AV} (hf:ev lt fop=some (.sc (.func (.func f) #[] #[]))) (hvs:evs lt xs.toList=some vs) (hok:vs.all AV.ok=true)
  (h:CallC P lm nx K f vs):∃ e,K e/\SOK P c lt lm nx o e:=by
 obtain ⟨t,l,zs,zs',args,own,d,mn,k,vs',hfn,rfl,hpl,hargs,h⟩:=h
 split at h
 ·rename_i xo hd cs hk
  obtain ⟨hfx,rfl,hK⟩:=h
  refine ⟨_,hK,?_⟩
  clear hK
  have hrows:∀ v ∈ vs',∀ j ∈ v.rows,j ∈ vs'.flatMap AV.rows:=fun v hv j hj=>List.mem_flatMap.2 ⟨v,hv,hj⟩
  have hknx:k < nx:=by
   rcases Nat.lt_or_ge k nx with h|h
   ·exact h
   ·rw [hnx k h] at hk; cases hk
  have hkf:look (frzU lm (vs'.flatMap AV.rows)) k=none:=frzU_nob (by rw [hk]; rfl)
  have hen:∀ p ∈ (if (own && !d.1.flat) then if mn then mineM (DW.ocel nx d.1 d.2).2 else (DW.ocel nx d.1 d.2).2 else []),∃ q ∈ (DW.ocel nx d.1 d.2).2,q.1=p.1:=by
   intro p hp
   split at hp
   ·split at hp
    ·exact mineM_names hp
    ·exact ⟨p,hp,rfl⟩
   ·cases hp
  refine ⟨fun p hp=>?_,fun σ Γ a w hs hl hm hn hdd K Q hK=>?_⟩
  ·rcases List.mem_append.1 hp with hp|hp
   ·obtain ⟨q,hq,e⟩:=hen p hp
    rw [<-e]; exact .inl (ocel_names q hq).1
   ·rcases List.mem_cons.1 hp with rfl|hp
    ·exact .inr List.mem_cons_self
    ·exact .inr (List.mem_cons_of_mem _ (frzU_mem hp))
  obtain ⟨hr,hv⟩:=call_run ho hf hvs hok hfn.1 σ Γ a w hs hl
  unfold Oper.wp
  rw [hr,Oper.upon_enter]
  have hma:xs.map a.eval=(xs.toList.map a.eval).toArray:=Array.toList_inj.1 (by rw [Array.toList_map])
  rw [hma]
  have hmr:∀ j ∈ vs'.flatMap AV.rows,look σ.mem j=lm j:=fun j hj=>hm j (List.mem_cons_of_mem _ hj)
  have hf':=hs.frz (ks:=vs'.flatMap AV.rows)
  have hcongr:frzU (look σ.mem) (vs'.flatMap AV.rows)=frzU lm (vs'.flatMap AV.rows):=frzU_congr fun k hk=>hmr k hk
  rw [hcongr] at hf'
  have hkM:look (frzU lm (vs'.flatMap AV.rows)++σ.mem) k=some (.bx xo (hd :: zs.map fun z=>.sc z)):=by
   rw [app_look2 hkf,hm k List.mem_cons_self]; exact hk
  obtain ⟨hloc,us,e,hg,hc⟩:=hf'.mm k _ hkM
  obtain ⟨u0,us0,hus,hc0,hc1⟩:∃ u0 us0,us.toList=u0 :: us0/\CRep c (frzU lm (vs'.flatMap AV.rows)++σ.mem) Γ w hd u0/\All2 (CRep c (frzU lm (vs'.flatMap AV.rows)++σ.mem) Γ w) (zs.map fun z=>.sc z) us0:=by
   cases hul:us.toList with
   | nil=>rw [hul] at hc; exact hc.elim
   | cons u0 us0=>rw [hul] at hc; exact ⟨u0,us0,rfl,hc.1,hc.2⟩
  obtain ⟨rfl,hzok⟩:=sc_vals hc1
  obtain ⟨fp0,hr0,hg0⟩:=fxd_rep hfx hc0
  have hg':w.heap[Γ.loc k xo]? = some (.cells (u0 :: us0).toArray e (0,0)):=by rw [hg,<-hus]
  have hlt:Γ.loc k xo < w.heap.size:=lt_of_heap hg
  generalize hxl:xs.toList=xl at hv hvs
  match xl,hv with
  | x0 :: xl',⟨hv0,hv'⟩ =>
   obtain ⟨xo',cs',hq,hp0⟩:=(show CRep c σ.mem Γ w (.ptr k 0) (a.eval x0) from hv0)
   rw [hm k List.mem_cons_self,hk] at hq
   injection hq with hq; injection hq with hq1 hq2; subst hq1
   have hvf:All2 (fun v x=>ARep c (frzU lm (vs'.flatMap AV.rows)++σ.mem) Γ w v (a.eval x)) vs' xl':=by
    have:=(call_run ho hf (by rw [hxl]; exact hvs) hok hfn.1 _ Γ a w hf' hl).2
    rw [hxl] at this
    exact this.2
   have hda:=all2_dat (S:=fun b=>Gd c (frzU lm (vs'.flatMap AV.rows)++σ.mem) Γ b) hvf hargs (fun v d u hvm hvr hi=>by
    have hi:IsV (fun j=>(look (frzU lm (vs'.flatMap AV.rows)) j).or (lm j)) d v:=hi
    obtain ⟨fp,h1,_,h3⟩:=hf'.isVRep hvr (IsV_congr (fun k hk=>by rw [look_app,hmr k (hrows v hvm k hk)]) hi)
    refine ⟨fp,h1,h3 fun k hk e t v' o' l hrow=>?_⟩
    rw [<-hcongr] at hrow
    exact (frz_no hrow).1 (hrows v hvm k hk))
   rw [List.map_cons,hp0]
   refine (hfn.2.2 w _ u0 e fp0 _ _ (cg_gw hs) (cg_ne (hf'.mut_lt hkM rfl).1) hg' hzok hr0 hg0 (fun h=>h.2 ⟨k,_,hkM,rfl⟩) hda).mono ?_
   rintro en w' ⟨hbx,⟨e',hge⟩,u,rfl,fp,hdr,hown,hfp⟩
   have hs1:=hf'.setBox' (us:=(u0 :: zs').toArray) (e:=e') (cs':=hd :: zs'.map fun z=>.sc z) hkM ⟨hc0,vals_sc hfn.2.1⟩
   generalize hw1:({ w with heap:=w.heap.setIfInBounds (Γ.loc k xo) (.cells (u0 :: zs').toArray e' (0,0)) }:World)=w1 at hs1
   have hsz:w1.heap.size=w.heap.size:=by rw [<-hw1]; simp
   have hb1:Below w1.heap.size w1 w':=by
    refine ⟨by rw [<-hw1]; exact hbx.os,by rw [<-hw1]; exact hbx.tape,by rw [<-hw1]; exact hbx.output,by rw [hsz]; exact hbx.size,fun b hb=>?_⟩
    rw [hsz] at hb
    by_cases hbb:b=Γ.loc k xo
    ·subst hbb
     rw [hge,<-hw1]
     show _=(w.heap.setIfInBounds _ _)[_]?
     rw [Array.getElem?_setIfInBounds_self_of_lt hlt]
    ·rw [hbx.block b hb hbb,<-hw1]
     show _=(w.heap.setIfInBounds _ _)[_]?
     rw [Array.getElem?_setIfInBounds_ne (fun h=>hbb h.symm)]
   have hfin:∀ (σ':St) (Γ':Asg) (w':World) (v:AV) (u:Value),σ'.tmps=σ.tmps->Sim c σ' Γ' a w'->VRep c σ'.mem Γ' w' v u->(cEff lm nx (vs'.flatMap AV.rows) k xo hd zs' (own && !d.1.flat) mn d).v=v->(cEff lm nx (vs'.flatMap AV.rows) k xo hd zs' (own && !d.1.flat) mn d).mems++σ.mem=σ'.mem->K (a.put o.dst u) w':=by
    intro σ' Γ' w' v u e0 hs' hvr e1 e2
    refine hK Γ' _ _ ?_
    have:=hs'.put (d:=o.dst) hvr (fun x hx=>hdd x hx)
    unfold St.app
    rw [e1,e2]
    cases hdst:o.dst<;>simp only [hdst,St.put,<-e0] at this ⊢<;>exact this
   cases hfl:d.1.flat with
   | true =>
    have hfp0:fp=[]:=by obtain ⟨cs,_,hrp⟩:=hdr; exact flat_rep hfl hrp
    subst hfp0
    refine hfin ⟨σ.tmps,(k,Blk.bx xo (hd :: zs'.map fun z=>.sc z)) :: (frzU lm (vs'.flatMap AV.rows)++σ.mem)⟩ Γ w' (av d.1 d.2) u rfl (hs1.frame hb1) (arep_vrep (av_rep hdr fun b hbb=>by cases hbb)) ?_ ?_<;>simp [cEff,hfl]
   | false =>
    have hown2:own=true/\d.1.plain=true:=by simpa [hfl] using hpl
    obtain ⟨rfl,hplain⟩:=hown2
    have ho':=hown rfl
    rw [<-hsz] at ho'
    obtain ⟨cs,hpk,hrp⟩:=hdr
    have hn':∀ p ∈ (DW.ocel nx d.1 d.2).2,look ((k,Blk.bx xo (hd :: zs'.map fun z=>.sc z)) :: (frzU lm (vs'.flatMap AV.rows)++σ.mem)) p.1=none:=fun p hp=>by
     have h1:=(ocel_names p hp).1
     rw [look_ne _ _ (by omega),app_look2 (frzU_nob (by rw [hnx _ h1]; rfl))]
     by_cases hin:p.1 ∈ vs'.flatMap AV.rows
     ·rw [hmr p.1 hin]; exact hnx _ h1
     ·have hq:∃ q ∈ (if mn then mineM (DW.ocel nx d.1 d.2).2 else (DW.ocel nx d.1 d.2).2),q.1=p.1:=by
       cases mn with
       | true=>exact mineM_names' hp
       | false=>exact ⟨p,hp,rfl⟩
      obtain ⟨q,hq,e⟩:=hq
      rw [<-e]
      refine hn q ?_ ?_
      ·show q ∈ (if (true && !d.1.flat) then _ else _)++_
       rw [hfl]
       exact List.mem_append.2 (.inl hq)
      ·rw [e]
       intro hmem
       rcases List.mem_cons.1 hmem with h2|h2
       ·omega
       ·exact hin h2
    have hpkv:∀ {M:Mm} {Γ':Asg},All2 (CRep c M Γ' w') (DW.ocel nx d.1 d.2).1 cs->VRep c M Γ' w' (oav nx d) u:=by
     intro M Γ' r1
     unfold oav
     rcases hpk with ⟨hag,rfl⟩|⟨hag,rfl⟩
     ·rw [hag]; exact ⟨cs,rfl,r1⟩
     ·rw [hag]
      obtain ⟨v,hv1⟩:=ocel_one (k:=nx) (x:=d.2) hag
      rw [hv1] at r1 ⊢
      exact crep_vrep r1.1
    cases mn with
    | true =>
     obtain ⟨Γ',s1,r1⟩:=hs1.newMine hb1 hplain hrp ho' hn'
     refine hfin ⟨σ.tmps,mineM (DW.ocel nx d.1 d.2).2++(k,Blk.bx xo (hd :: zs'.map fun z=>.sc z)) :: (frzU lm (vs'.flatMap AV.rows)++σ.mem)⟩ Γ' w' (oav nx d) u rfl s1 (hpkv r1) ?_ ?_<;>simp [cEff,hfl]
    | false =>
     have hs2:=hs1.frame hb1
     have hnm:∀ b,c.base<=b->w1.heap.size<=b->Gd c ((k,Blk.bx xo (hd :: zs'.map fun z=>.sc z)) :: (frzU lm (vs'.flatMap AV.rows)++σ.mem)) Γ b:=fun b h1 h2=>⟨.inr h1,fun ⟨k,B,hB,hmb⟩=>by have:=(hs1.mut_lt hB hmb).2; omega⟩
     obtain ⟨Γ',s1,r1,_,_,_⟩:=hs2.ocel (k:=nx) hrp ⟨ho'.1,fun b hbb=>⟨.inl (Nat.le_trans hs1.hb (ho'.2 b hbb).1),(ho'.2 b hbb).2⟩⟩ (fun b hbb=>hnm b (Nat.le_trans hs1.hb (ho'.2 b hbb).1) (ho'.2 b hbb).1)
      (fun b hbb j B hj hbo=>by have h1:=hs1.ofp_lt hj hbo; have h2:=(ho'.2 b hbb).1; omega) hn'
     refine hfin ⟨σ.tmps,(DW.ocel nx d.1 d.2).2++(k,Blk.bx xo (hd :: zs'.map fun z=>.sc z)) :: (frzU lm (vs'.flatMap AV.rows)++σ.mem)⟩ Γ' w' (oav nx d) u rfl s1 (hpkv r1) ?_ ?_<;>simp [cEff,hfl]
  | [],hv=>exact hv.elim
 ·exact h.elim
theorem aCallN_ok (hnx:∀ k,nx<=k->lm k=none) {fop:Operand} {xs:Array Operand} {tys:Array TypeId} (ho:o.op=.call { callee:=.value fop,args:=xs,argTypes:=tys }) {f:FuncId} {vs:List AV} (hf:ev lt fop=some (.sc (.func (.func f) #[] #[]))) (hvs:evs lt xs.toList=some vs) (hok:vs.all AV.ok=true)
  (h:CallN P lm nx K f vs):∃ e,K e/\SOK P c lt lm nx o e:=by
 obtain ⟨t,l,zs,args,v,vs',hfn,rfl,hfx,hargs,hK⟩:=h
 refine ⟨_,hK,?_⟩
 clear hK
 have hrows:∀ v ∈ vs',∀ j ∈ v.rows,j ∈ vs'.flatMap AV.rows:=fun v hv j hj=>List.mem_flatMap.2 ⟨v,hv,hj⟩
 refine ⟨fun p hp=>?_,fun σ Γ a w hs hl hm hn hdd K Q hK=>?_⟩
 ·rcases List.mem_cons.1 hp with rfl|hp
  ·exact .inl (Nat.le_refl _)
  ·exact .inr (frzU_mem hp)
 obtain ⟨hr,hv⟩:=call_run ho hf hvs hok hfn.1 σ Γ a w hs hl
 unfold Oper.wp
 rw [hr,Oper.upon_enter]
 have hma:xs.map a.eval=(xs.toList.map a.eval).toArray:=Array.toList_inj.1 (by rw [Array.toList_map])
 rw [hma]
 have hf':=hs.frz (ks:=vs'.flatMap AV.rows)
 have hcongr:frzU (look σ.mem) (vs'.flatMap AV.rows)=frzU lm (vs'.flatMap AV.rows):=frzU_congr fun k hk=>hm k hk
 rw [hcongr] at hf'
 generalize hxl:xs.toList=xl at hv hvs
 match xl,hv with
 | x0 :: xl',_ =>
  have hvf:=(call_run ho hf (by rw [hxl]; exact hvs) hok hfn.1 _ Γ a w hf' hl).2
  rw [hxl] at hvf
  obtain ⟨hv0,hvf⟩:=hvf
  have hda:=all2_dat (S:=fun b=>Gd c (frzU lm (vs'.flatMap AV.rows)++σ.mem) Γ b) hvf hargs (fun v d u hvm hvr hi=>by
   have hi:IsV (fun j=>(look (frzU lm (vs'.flatMap AV.rows)) j).or (lm j)) d v:=hi
   obtain ⟨fp,h1,_,h3⟩:=hf'.isVRep hvr (IsV_congr (fun k hk=>by rw [look_app,hm k (hrows v hvm k hk)]) hi)
   refine ⟨fp,h1,h3 fun k hk e t v' o' l hrow=>?_⟩
   rw [<-hcongr] at hrow
   exact (frz_no hrow).1 (hrows v hvm k hk))
  have hc0:CRep c (frzU lm (vs'.flatMap AV.rows)++σ.mem) Γ w v (a.eval x0):=by
   cases v<;>first|exact hv0|cases hfx
  obtain ⟨fp0,hr0,hg0⟩:=fxd_rep hfx hc0
  rw [List.map_cons]
  refine (hfn.2.2 w _ fp0 _ _ (cg_gw hs) hr0 hg0 hda).mono ?_
  rintro en w' ⟨hb,b,e,rfl,hbs,hgb⟩
  have hnone:look (frzU lm (vs'.flatMap AV.rows)++σ.mem) nx=none:=by
   rw [app_look2 (frzU_nob (by rw [hnx _ (Nat.le_refl _)]; rfl))]
   by_cases hin:nx ∈ vs'.flatMap AV.rows
   ·rw [hm nx hin]; exact hnx _ (Nat.le_refl _)
   ·exact hn (nx,_) List.mem_cons_self hin
  have hs1:Sim c ⟨σ.tmps,(nx,.box (v :: zs.map fun z=>.sc z)) :: (frzU lm (vs'.flatMap AV.rows)++σ.mem)⟩ (Γ.setB nx b) a w':=by
   refine hf'.chg ⟨Asg.setB_ne Γ nx _,hb.os,hb.tape,hb.output,hb.size,fun b' hlt _=>hb.block b' hlt,fun b' hb'=>.inl ?_,fun b' hb'=>by simp [Blk.ofp] at hb'⟩ ?_ ?_ ?_ ?_
   ·have:b'=(Γ.setB nx b).β nx:=hb'
    rw [Asg.setB_β] at this; omega
   ·rintro ver u ⟨_,B,hB,_⟩; rw [hnone] at hB; cases hB
   ·rintro ver i off u ⟨_,B,hB,_⟩; rw [hnone] at hB; cases hB
   ·intro x cs hB; rw [hnone] at hB; cases hB
   ·intro hcr
    refine ⟨(by show c.base<=(Γ.setB nx b).β nx; rw [Asg.setB_β]; exact Nat.le_trans hs.hb hbs),(a.eval x0 :: zs).toArray,e,(by show w'.heap[(Γ.setB nx b).β nx]? = _; rw [Asg.setB_β]; exact hgb),hcr _ _ hc0,vals_sc hfn.2.1⟩
  refine hK (Γ.setB nx b) _ _ ?_
  have:=hs1.put (d:=o.dst) (v:=.ptr nx 0) (u:=.pointer (some ⟨b,0,none⟩)) ⟨none,_,look_self ..,by show _=Value.pointer (some ⟨(Γ.setB nx b).β nx,0,none⟩); rw [Asg.setB_β]⟩ (fun x hx=>hdd x hx)
  unfold St.app
  cases hdst:o.dst<;>simp only [hdst,St.put] at this ⊢<;>exact this
 | [],hv=>exact hv.elim
theorem lmQ_data {lm:Nat->Option Blk} {v:AV} {d:Lst} (h:v.data (lmQ lm)=some d):v.data lm=some d/\∀ k ver,v=.row k ver->∀ e t v o l,lm k ≠ some (.row e t v o l):=by
 cases v with
 | row k ver =>
  simp only [AV.data,lmQ] at h ⊢
  cases hl:lm k with
  | none=>rw [hl] at h; cases h
  | some B =>
   rw [hl] at h
   cases B with
   | odat t l=>exact ⟨h,fun k' ver' e e' t' v' o' l' hh=>by injection e with e1 _; subst e1; rw [hl] at hh; cases hh⟩
   | froz t v l=>exact ⟨h,fun k' ver' e e' t' v' o' l' hh=>by injection e with e1 _; subst e1; rw [hl] at hh; cases hh⟩
   | _=>cases h
 | sl s m=>exact ⟨h,fun k' ver' e=>by cases e⟩
 | fx u s m=>exact ⟨h,fun k' ver' e=>by cases e⟩
 | _=>cases h
theorem lmQ_is {lm:Nat->Option Blk}:∀ {t:Ty} {x:t.den} {cs:List AV},Is (lmQ lm) t x cs->Is lm t x cs/\∀ k ver,AV.row k ver ∈ cs->∀ e t v o l,lm k ≠ some (.row e t v o l)
 | .int,_,cs,h=>⟨h,fun k ver hm=>by have h:cs=_:=h; subst h; simp at hm⟩
 | .bool,_,cs,h=>⟨h,fun k ver hm=>by have h:cs=_:=h; subst h; simp at hm⟩
 | .str,_,cs,h=>⟨h,fun k ver hm=>by have h:cs=_:=h; subst h; simp at hm⟩
 | .u8,_,cs,h=>⟨h,fun k ver hm=>by have h:cs=_:=h; subst h; simp at hm⟩
 | .cst _,_,cs,h=>⟨h,fun k ver hm=>by have h:cs=_:=h; subst h; simp at hm⟩
 | .ext e a,x,cs,h=>⟨h,fun k ver hm=>by
  rcases h with rfl|⟨_,rfl⟩
  ·cases x<;>cases e<;>simp [exV] at hm
  ·simp at hm⟩
 | .slice a,l,cs,⟨v,e,hv⟩=>by
  rcases hv with hv|⟨rfl,rfl⟩
  ·obtain ⟨h1,h2⟩:=lmQ_data hv
   refine ⟨⟨v,e,.inl h1⟩,fun k ver hm=>?_⟩
   rw [e,List.mem_singleton] at hm
   exact h2 k ver hm.symm
  ·exact ⟨⟨_,e,.inr ⟨rfl,rfl⟩⟩,fun k ver hm=>by rw [e] at hm; simp at hm⟩
 | .prod a b,x,cs,⟨h1,h2⟩=>by
  obtain ⟨i1,g1⟩:=lmQ_is h1
  obtain ⟨i2,g2⟩:=lmQ_is h2
  refine ⟨⟨i1,i2⟩,fun k ver hm=>?_⟩
  rw [<-List.take_append_drop a.size cs,List.mem_append] at hm
  exact hm.elim (g1 k ver) (g2 k ver)
theorem aCallQ_ok {fop:Operand} {xs:Array Operand} {tys:Array TypeId} (ho:o.op=.call { callee:=.value fop,args:=xs,argTypes:=tys }) {f:FuncId} {vs:List AV} (hf:ev lt fop=some (.sc (.func (.func f) #[] #[]))) (hvs:evs lt xs.toList=some vs) (hok:vs.all AV.ok=true)
  (h:CallQ P lm K f vs):∃ e,K e/\SOK P c lt lm nx o e:=by
 obtain ⟨args,d,hfn,hargs,hK⟩:=h
 refine ⟨_,hK,?_⟩
 clear hK
 have hrows:∀ v ∈ vs,∀ k ∈ v.rows,k ∈ vs.flatMap AV.rows:=fun v hv k hk=>List.mem_flatMap.2 ⟨v,hv,hk⟩
 refine ⟨fun p hp=>(by cases hp),fun σ Γ a w hs hl hm hn hd K Q hK=>?_⟩
 obtain ⟨hr,hv⟩:=call_run ho hf hvs hok hfn.1 σ Γ a w hs hl
 unfold Oper.wp
 rw [hr,Oper.upon_enter]
 have hma:xs.map a.eval=(xs.toList.map a.eval).toArray:=Array.toList_inj.1 (by rw [Array.toList_map])
 rw [hma]
 have hda:=all2_dat (S:=fun b=>Gd c σ.mem Γ b) hv hargs (fun v d u hvm hvr hi=>by
  have hcg:∀ k ∈ v.rows,look σ.mem k=lm k:=fun k hk=>hm k (hrows v hvm k hk)
  have key:IsV lm d v/\∀ k ∈ v.rows,∀ e t v o l,lm k ≠ some (.row e t v o l):=by
   cases v with
   | agg cs =>
    obtain ⟨i1,g1⟩:=lmQ_is hi.2
    refine ⟨⟨hi.1,i1⟩,fun k hk=>?_⟩
    obtain ⟨cv,hcv,hkv⟩:=List.mem_flatMap.1 hk
    cases cv<;>simp at hkv
    subst hkv
    exact g1 _ _ hcv
   | row k ver =>
    obtain ⟨i1,g1⟩:=lmQ_is hi.2
    exact ⟨⟨hi.1,i1⟩,fun k' hk=>by
     rw [List.mem_singleton.1 hk]
     exact g1 k ver List.mem_cons_self⟩
   | _=>exact ⟨⟨hi.1,(lmQ_is hi.2).1⟩,fun k hk=>by cases hk⟩
  obtain ⟨fp,h1,_,h3⟩:=hs.isVRep hvr (IsV_congr hcg key.1)
  exact ⟨fp,h1,h3 fun k hk e t v' o' l hrow=>key.2 k hk e t v' o' l ((hcg k hk).symm.trans hrow)⟩)
 refine (hfn.2 w _ _ (cg_gw hs) hda).mono ?_
 rintro e w' ⟨hb,u,rfl,fp,hdr,_,hfp⟩
 have hs':=hs.frame hb
 have hgd:∀ b,Gd c σ.mem Γ b\/w.heap.size<=b->Gd c σ.mem Γ b:=fun b hbb=>hbb.elim id fun h2=>⟨.inr (Nat.le_trans hs.hb h2),fun ⟨k,B,hB,hmb⟩=>by have:=(hs.mut_lt hB hmb).2; omega⟩
 refine hK Γ _ _ ?_
 have:=hs'.put (d:=o.dst) (arep_vrep (av_rep hdr fun b hbb=>hgd b (hfp b hbb))) (fun x hx=>hd x hx)
 unfold St.app
 cases hdst:o.dst<;>simp only [hdst,St.put,List.nil_append] at this ⊢<;>exact this
def AddrIs (σ:St) (Γ:Asg) (kc b:Nat):Prop:=∀ B,look σ.mem kc=some B->match B with
 | .ob xo _ d=>oblk d (Γ.ov kc xo)=some b
 | .bx xo _=>Γ.loc kc xo=b
 | _=>True
theorem addr_ex {σ:St} {Γ:Asg} {a:Act} {w:World} (hs:Sim c σ Γ a w) {kc:Nat} (hl:look σ.mem kc=lm kc):∃ b,AddrIs σ Γ kc b/\AddrOf lm kc b:=by
 unfold AddrIs AddrOf
 rw [<-hl]
 cases hB:look σ.mem kc with
 | none=>exact ⟨0,(fun B h=>by cases h),trivial⟩
 | some B =>
  cases B with
  | ob xo v d =>
   obtain ⟨b,o,h1,_⟩:=hs.mm kc _ hB
   refine ⟨b,(fun B h=>by injection h with h; subst h; exact h1),?_⟩
   cases xo with
   | none=>trivial
   | some v=>exact h1
  | bx xo cs =>
   refine ⟨Γ.loc kc xo,(fun B h=>by injection h with h; subst h; rfl),?_⟩
   cases xo with
   | none=>trivial
   | some v=>rfl
  | _=>exact ⟨0,(fun B h=>by injection h with h; subst h; trivial),trivial⟩
def Sb (c:Cx) (σ:St) (Γ:Asg) (kc y:Nat):Prop:=Gd c σ.mem Γ y\/∃ k B,k ≠ kc/\look σ.mem k=some B/\B.mut Γ k y
theorem isH0_rep {σ:St} {Γ:Asg} {a:Act} {w:World} (hs:Sim c σ Γ a w) {kc b:Nat} (hb:AddrIs σ Γ kc b):∀ {t:Ty} {x:t.den} {cs:List AV} {us:List Value},All2 (CRep c σ.mem Γ w) cs us->IsH0 (look σ.mem) kc b t x cs->∃ fp,t.rp.rep w us x fp/\∀ y ∈ fp,Gd c σ.mem Γ y:=by
 have leaf:∀ {t:Ty} {x:t.den} {cs:List AV} {us:List Value},All2 (CRep c σ.mem Γ w) cs us->Is (lmQ (look σ.mem)) t x cs->∃ fp,t.rp.rep w us x fp/\∀ y ∈ fp,Gd c σ.mem Γ y:=by
  intro t x cs us hc hi
  obtain ⟨i1,g1⟩:=lmQ_is hi
  obtain ⟨fp,h1,_,h3⟩:=hs.isRep hc i1
  exact ⟨fp,h1,h3 g1⟩
 intro t
 induction t with
 | prod A B ihA ihB =>
  intro x cs us hc ⟨h1,h2⟩
  have hl:=hc.len
  obtain ⟨f1,r1,g1⟩:=ihA (hc.take _) h1
  obtain ⟨f2,r2,g2⟩:=ihB (hc.drop _) h2
  exact ⟨f1++f2,⟨_,_,f1,f2,(List.take_append_drop _ _).symm,rfl,r1,r2⟩,fun y hy=>(List.mem_append.1 hy).elim (g1 y) (g2 y)⟩
 | cst f =>
  cases f with
  | mp m =>
   intro x cs us hc h
   have h:IsMp (look σ.mem) kc b m cs:=h
   unfold IsMp at h
   split at h
   ·have hl:=hc.len
    match us,hl with
    | [u],_ =>
     obtain ⟨⟨e,_⟩,_⟩:=hc
     exact ⟨[],⟨by rw [e,h]; rfl,rfl⟩,fun y hy=>by cases hy⟩
   ·rename_i k ver
    obtain ⟨rfl,rfl,h⟩:=h
    split at h
    ·rename_i xo v g hk
     have hl:=hc.len
     match us,hl with
     | [u],_ =>
      obtain ⟨⟨_,B,hB,hbh⟩,_⟩:=hc
      rw [hk] at hB; injection hB with hB; subst hB
      have h1:=hb _ hk
      have e:=hbh.2 h
      obtain ⟨b0,o,_,_,_,⟨m,em⟩,_⟩:=hs.mm _ _ hk
      simp only [em] at h1
      injection h1 with h1
      refine ⟨[],⟨?_,rfl⟩,fun y hy=>by cases hy⟩
      rw [e,em,h1]; rfl
    ·exact h.elim
   ·exact h.elim
  | _=>intro x cs us hc h; exact leaf hc h
 | ext e t _ =>
  cases e with
  | opq =>
   intro x cs us hc h
   cases x with
   | none=>exact leaf hc h
   | some y =>
    have h:cs.length=1:=h
    have hl:=hc.len
    match cs,us,hl,h,hc with
    | [v],[u],_,_,hc=>exact ⟨[],⟨u,rfl,hc.1.one,rfl⟩,fun y hy=>by cases hy⟩
  | _=>intro x cs us hc h; exact leaf hc h
 | _=>intro x cs us hc h; exact leaf hc h
theorem isHc_ext {lm:Nat->Option Blk} {kc b:Nat} {e:Ex} {t:Ty} {x:Option t.den} {cs:List AV} (h:IsHc lm kc b (.ext e t) x cs):IsH0 lm kc b (.ext e t) x cs\/∃ y k,e=.ref/\x=some y/\cs=[.ptr k 0]/\k ≠ kc/\(match lm k with|some (.bx _ cs)=>IsH0 lm kc b t y cs|_=>False):=by
 cases e with
 | ref =>
  cases x with
  | none=>exact .inl h
  | some y =>
   match cs,h with
   | [],h=>exact .inl h
   | [v],h =>
    cases v with
    | ptr k off =>
     cases off with
     | zero=>exact .inr ⟨y,k,rfl,rfl,rfl,h⟩
     | succ n=>exact .inl h
    | _=>exact .inl h
   | v :: _ :: _,h =>
    cases v with
    | ptr k off=>cases off<;>exact .inl h
    | _=>exact .inl h
 | clo f=>exact .inl h
 | opq=>exact .inl h
theorem isHc_rep {σ:St} {Γ:Asg} {a:Act} {w:World} (hs:Sim c σ Γ a w) {kc b:Nat} (hb:AddrIs σ Γ kc b):∀ {t:Ty} {x:t.den} {cs:List AV} {us:List Value},All2 (CRep c σ.mem Γ w) cs us->IsHc (look σ.mem) kc b t x cs->∃ fp,t.rp.rep w us x fp/\∀ y ∈ fp,Sb c σ Γ kc y:=by
 have leaf:∀ {t:Ty} {x:t.den} {cs:List AV} {us:List Value},All2 (CRep c σ.mem Γ w) cs us->IsH0 (look σ.mem) kc b t x cs->∃ fp,t.rp.rep w us x fp/\∀ y ∈ fp,Sb c σ Γ kc y:=fun hc h=>by
  obtain ⟨fp,h1,h2⟩:=isH0_rep hs hb hc h
  exact ⟨fp,h1,fun y hy=>.inl (h2 y hy)⟩
 intro t
 induction t with
 | prod A B ihA ihB =>
  intro x cs us hc ⟨h1,h2⟩
  obtain ⟨f1,r1,g1⟩:=ihA (hc.take _) h1
  obtain ⟨f2,r2,g2⟩:=ihB (hc.drop _) h2
  exact ⟨f1++f2,⟨_,_,f1,f2,(List.take_append_drop _ _).symm,rfl,r1,r2⟩,fun y hy=>(List.mem_append.1 hy).elim (g1 y) (g2 y)⟩
 | ext e t _ =>
  intro x cs us hc h
  rcases isHc_ext h with h|⟨y,k,rfl,rfl,rfl,hne,h⟩
  ·exact leaf hc h
  ·skip
   split at h
   ·rename_i xo cs' hk
    match us,hc with
    | [u],⟨hp,_⟩ =>
     obtain ⟨x',cs2,hq,rfl⟩:=hp
     rw [hk] at hq; injection hq with hq; injection hq with h1 h2; subst h1 h2
     obtain ⟨_,us2,e2,hg,hc2⟩:=hs.mm k _ hk
     obtain ⟨fp,hr,hfp⟩:=isH0_rep hs hb hc2 h
     refine ⟨Γ.loc k xo :: fp,⟨Γ.loc k xo,0,us2.toList,fp,rfl,rfl,hr,fun j v hj=>?_⟩,fun y hy=>?_⟩
     ·rw [Nat.zero_add,cell_of_row w _ j us2 e2 (0,0) hg,<-Array.getElem?_toList]; exact hj
     ·rcases List.mem_cons.1 hy with rfl|hy
      ·exact .inr ⟨k,_,hne,hk,rfl⟩
      ·exact .inl (hfp y hy)
   ·exact h.elim
 | _=>intro x cs us hc h; exact leaf hc h
theorem isQ_rep {σ:St} {Γ:Asg} {a:Act} {w:World} (hs:Sim c σ Γ a w) {v:AV} {u:Value} {d:Dat} (hv:ARep c σ.mem Γ w v u) (hi:IsV (lmQ (look σ.mem)) d v):∃ fp,DRep w u d fp/\∀ y ∈ fp,Gd c σ.mem Γ y:=by
 have key:IsV (look σ.mem) d v/\∀ k ∈ v.rows,∀ e t v o l,look σ.mem k ≠ some (.row e t v o l):=by
  cases v with
  | agg cs =>
   obtain ⟨i1,g1⟩:=lmQ_is hi.2
   refine ⟨⟨hi.1,i1⟩,fun k hk=>?_⟩
   obtain ⟨cv,hcv,hkv⟩:=List.mem_flatMap.1 hk
   cases cv<;>simp at hkv
   subst hkv
   exact g1 _ _ hcv
  | row k ver =>
   obtain ⟨i1,g1⟩:=lmQ_is hi.2
   exact ⟨⟨hi.1,i1⟩,fun k' hk=>by
    rw [List.mem_singleton.1 hk]
    exact g1 k ver List.mem_cons_self⟩
  | _=>exact ⟨⟨hi.1,(lmQ_is hi.2).1⟩,fun k hk=>by cases hk⟩
 obtain ⟨fp,h1,_,h3⟩:=hs.isVRep hv key.1
 exact ⟨fp,h1,h3 key.2⟩
theorem isRf_rep {σ:St} {Γ:Asg} {a:Act} {w:World} (hs:Sim c σ Γ a w) {kc b:Nat} (hb:AddrIs σ Γ kc b) {k:Nat} {u:Value} {t:Ty} {x:t.den} (hp:PtrK σ.mem Γ k u) (h:IsRf (look σ.mem) kc b k t x):∃ fp,t.rp.rep w [u] x fp/\(t.isAgg=false)/\∀ y ∈ fp,Sb c σ Γ kc y:=by
 unfold IsRf at h
 split at h
 ·rename_i t x
  obtain ⟨hne,h⟩:=h
  split at h
  ·rename_i xo cs hk
   obtain ⟨x',cs',hq,rfl⟩:=hp
   rw [hk] at hq; injection hq with hq; injection hq with h1 h2; subst h1 h2
   obtain ⟨_,us,e,hg,hc⟩:=hs.mm k _ hk
   obtain ⟨fp,hr,hfp⟩:=isHc_rep hs hb hc h
   refine ⟨Γ.loc k xo :: fp,⟨Γ.loc k xo,0,us.toList,fp,rfl,rfl,hr,fun j v hj=>?_⟩,rfl,fun y hy=>?_⟩
   ·rw [Nat.zero_add,cell_of_row w _ j us e (0,0) hg,<-Array.getElem?_toList]; exact hj
   ·rcases List.mem_cons.1 hy with rfl|hy
    ·exact .inr ⟨k,_,hne,hk,rfl⟩
    ·exact hfp y hy
  ·exact h.elim
 ·rename_i p x0
  obtain ⟨rfl,rfl,h⟩:=h
  split at h
  ·rename_i xo cs hk
   obtain ⟨x',cs',hq,rfl⟩:=hp
   rw [hk] at hq; injection hq with hq; injection hq with h1 h2; subst h1 h2
   have h1:Γ.loc k xo=p:=hb _ hk
   exact ⟨[],⟨by rw [h1]; rfl,rfl⟩,rfl,fun y hy=>by cases hy⟩
  ·exact h.elim
 ·exact h.elim
theorem isKs_rep {σ:St} {Γ:Asg} {a:Act} {w:World} (hs:Sim c σ Γ a w) {kc b:Nat} (hb:AddrIs σ Γ kc b):∀ {A:Ty} {x:A.den} {ks:List Nat} {us:List Value},All2 (PtrK σ.mem Γ) ks us->IsKs (look σ.mem) kc b A x ks->∃ fp,A.rp.rep w us x fp/\∀ y ∈ fp,Sb c σ Γ kc y:=by
 intro A
 induction A with
 | prod A B ihA ihB =>
  intro x ks us hc ⟨h1,h2⟩
  obtain ⟨f1,r1,g1⟩:=ihA (hc.take _) h1
  obtain ⟨f2,r2,g2⟩:=ihB (hc.drop _) h2
  exact ⟨f1++f2,⟨_,_,f1,f2,(List.take_append_drop _ _).symm,rfl,r1,r2⟩,fun y hy=>(List.mem_append.1 hy).elim (g1 y) (g2 y)⟩
 | _ =>
  intro x ks us hc h
  match ks,us,hc with
  | [k],[u],⟨hp,_⟩ =>
   obtain ⟨fp,h1,_,h3⟩:=isRf_rep hs hb hp h
   exact ⟨fp,h1,h3⟩
  | [],_,_=>exact h.elim
  | _ :: _ :: _,_,_=>exact h.elim
theorem isH_rep {σ:St} {Γ:Asg} {a:Act} {w:World} (hs:Sim c σ Γ a w) {kc b:Nat} (hb:AddrIs σ Γ kc b) {v:AV} {u:Value} {d:Dat} (hv:ARep c σ.mem Γ w v u) (h:IsH (look σ.mem) kc b d v):∃ fp,DRep w u d fp/\∀ y ∈ fp,Sb c σ Γ kc y:=by
 have leaf:IsV (lmQ (look σ.mem)) d v->∃ fp,DRep w u d fp/\∀ y ∈ fp,Sb c σ Γ kc y:=by
  intro hi
  have key:IsV (look σ.mem) d v/\∀ k ∈ v.rows,∀ e t v o l,look σ.mem k ≠ some (.row e t v o l):=by
   cases v with
   | agg cs =>
    obtain ⟨i1,g1⟩:=lmQ_is hi.2
    refine ⟨⟨hi.1,i1⟩,fun k hk=>?_⟩
    obtain ⟨cv,hcv,hkv⟩:=List.mem_flatMap.1 hk
    cases cv<;>simp at hkv
    subst hkv
    exact g1 _ _ hcv
   | row k ver =>
    obtain ⟨i1,g1⟩:=lmQ_is hi.2
    exact ⟨⟨hi.1,i1⟩,fun k' hk=>by
     rw [List.mem_singleton.1 hk]
     exact g1 k ver List.mem_cons_self⟩
   | _=>exact ⟨⟨hi.1,(lmQ_is hi.2).1⟩,fun k hk=>by cases hk⟩
  obtain ⟨fp,h1,_,h3⟩:=hs.isVRep hv key.1
  exact ⟨fp,h1,fun y hy=>.inl (h3 key.2 y hy)⟩
 obtain ⟨t,x⟩:=d
 unfold IsH at h
 split at h
 ·rename_i k
  obtain ⟨xo,cs,hk,rfl⟩:=hv
  obtain ⟨fp,h1,h2,h3⟩:=isRf_rep hs hb ⟨xo,cs,hk,rfl⟩ h
  exact ⟨fp,⟨_,.inr ⟨h2,rfl⟩,h1⟩,h3⟩
 ·rename_i f ks
  obtain ⟨us,rfl,hp⟩:=hv
  have h5:IsCk (look σ.mem) kc b t x f ks:=h
  clear h
  unfold IsCk at h5
  split at h5
  ·obtain ⟨rfl,h6⟩:=h5
   obtain ⟨fp,h1,h2⟩:=isKs_rep hs hb hp h6
   exact ⟨fp,⟨_,.inr ⟨rfl,rfl⟩,us,rfl,h1⟩,h2⟩
  ·exact h5.elim
 ·obtain ⟨us,rfl,hc⟩:=hv
  obtain ⟨fp,h1,h2⟩:=isH0_rep hs hb hc h.2
  exact ⟨fp,⟨us,.inl ⟨h.1,rfl⟩,h1⟩,fun y hy=>.inl (h2 y hy)⟩
 ·exact leaf h
theorem isH0_congr {lm':Nat->Option Blk} {kc b:Nat} (hk:lm' kc=lm kc):∀ {t:Ty} {x:t.den} {cs:List AV},(∀ k ∈ cellRows cs,lm' k=lm k)->IsH0 lm kc b t x cs->IsH0 lm' kc b t x cs:=by
 have hq:∀ {k:Nat},lm' k=lm k->lmQ lm' k=lmQ lm k:=fun {k} h=>by unfold lmQ; rw [h]
 intro t
 induction t with
 | prod A B ihA ihB =>
  intro x cs hc ⟨h1,h2⟩
  exact ⟨ihA (fun k hk=>hc k (by obtain ⟨v,hv,hkv⟩:=List.mem_flatMap.1 hk; exact List.mem_flatMap.2 ⟨v,List.mem_of_mem_take hv,hkv⟩)) h1,ihB (fun k hk=>hc k (by obtain ⟨v,hv,hkv⟩:=List.mem_flatMap.1 hk; exact List.mem_flatMap.2 ⟨v,List.mem_of_mem_drop hv,hkv⟩)) h2⟩
 | cst f =>
  cases f with
  | mp m =>
   intro x cs hc h
   have h:IsMp lm kc b m cs:=h
   show IsMp lm' kc b m cs
   unfold IsMp at h ⊢
   rw [hk]; exact h
  | _=>intro x cs hc h; exact Is_congr (fun k hk=>hq (hc k hk)) h
 | ext e t _ =>
  cases e with
  | opq =>
   intro x cs hc h
   cases x with
   | none=>exact Is_congr (fun k hk=>hq (hc k hk)) h
   | some y=>exact h
  | _=>intro x cs hc h; exact Is_congr (fun k hk=>hq (hc k hk)) h
 | _=>intro x cs hc h; exact Is_congr (fun k hk=>hq (hc k hk)) h
theorem isHc_congr {lm':Nat->Option Blk} {kc b:Nat} (hk:lm' kc=lm kc):∀ {t:Ty} {x:t.den} {cs:List AV},(∀ k ∈ cellRows cs++cs.flatMap (ptrRows lm),lm' k=lm k)->IsHc lm kc b t x cs->IsHc lm' kc b t x cs:=by
 have leaf:∀ {t:Ty} {x:t.den} {cs:List AV},(∀ k ∈ cellRows cs++cs.flatMap (ptrRows lm),lm' k=lm k)->IsH0 lm kc b t x cs->IsH0 lm' kc b t x cs:=fun hc h=>isH0_congr hk (fun k h=>hc k (List.mem_append.2 (.inl h))) h
 have tk:∀ {cs cs':List AV},(∀ v ∈ cs',v ∈ cs)->(∀ k ∈ cellRows cs++cs.flatMap (ptrRows lm),lm' k=lm k)->∀ k ∈ cellRows cs'++cs'.flatMap (ptrRows lm),lm' k=lm k:=fun hs hc k h=>by
  rcases List.mem_append.1 h with h|h
  ·obtain ⟨v,hv,hkv⟩:=List.mem_flatMap.1 h
   exact hc k (List.mem_append.2 (.inl (List.mem_flatMap.2 ⟨v,hs v hv,hkv⟩)))
  ·obtain ⟨v,hv,hkv⟩:=List.mem_flatMap.1 h
   exact hc k (List.mem_append.2 (.inr (List.mem_flatMap.2 ⟨v,hs v hv,hkv⟩)))
 intro t
 induction t with
 | prod A B ihA ihB =>
  intro x cs hc ⟨h1,h2⟩
  exact ⟨ihA (tk (fun v hv=>List.mem_of_mem_take hv) hc) h1,ihB (tk (fun v hv=>List.mem_of_mem_drop hv) hc) h2⟩
 | ext e t _ =>
  intro x cs hc h
  rcases isHc_ext h with h|⟨y,k,rfl,rfl,rfl,h1,h2⟩
  ·have h3:=leaf hc h
   cases e with
   | ref =>
    cases x with
    | none=>exact h3
    | some y =>
     match cs,h3,h,hc with
     | [],h3,_,_=>exact h3
     | [v],h3,h,_ =>
      cases v with
      | ptr k off =>
       cases off with
       | zero=>exact absurd h (by simp [IsH0,Is,exV])
       | succ n=>exact h3
      | _=>exact h3
     | v :: _ :: _,h3,_,_ =>
      cases v with
      | ptr k off=>cases off<;>exact h3
      | _=>exact h3
   | clo f=>exact h3
   | opq=>exact h3
  ·refine ⟨h1,?_⟩
   split at h2
   ·rename_i xo cs' hkb
    have hkk:lm' k=lm k:=hc k (by simp [ptrRows,boxRows1,hkb])
    rw [hkk,hkb]
    exact isH0_congr hk (fun j hj=>hc j (by simp [ptrRows,boxRows1,hkb,hj])) h2
   ·exact h2.elim
 | _=>intro x cs hc h; exact leaf hc h
theorem isRf_congr {lm':Nat->Option Blk} {kc b k:Nat} (hk:lm' kc=lm kc) (hr:∀ j ∈ boxRows lm k,lm' j=lm j) {t:Ty} {x:t.den} (h:IsRf lm kc b k t x):IsRf lm' kc b k t x:=by
 unfold IsRf at h ⊢
 split at h
 ·obtain ⟨h1,h2⟩:=h
  refine ⟨h1,?_⟩
  have hkk:lm' k=lm k:=hr k (by unfold boxRows; split<;>simp)
  rw [hkk]
  split at h2
  ·rename_i xo cs hb
   exact isHc_congr hk (fun j hj=>hr j (by unfold boxRows; rw [hb]; exact List.mem_cons_of_mem _ hj)) h2
  ·exact h2.elim
 ·unfold IsPt at h ⊢; rw [hk]; exact h
 ·exact h.elim
theorem isKs_congr {lm':Nat->Option Blk} {kc b:Nat} (hk:lm' kc=lm kc):∀ {A:Ty} {x:A.den} {ks:List Nat},(∀ k ∈ ks,∀ j ∈ boxRows lm k,lm' j=lm j)->IsKs lm kc b A x ks->IsKs lm' kc b A x ks:=by
 intro A
 induction A with
 | prod A B ihA ihB =>
  intro x ks hr ⟨h1,h2⟩
  exact ⟨ihA (fun k h=>hr k (List.mem_of_mem_take h)) h1,ihB (fun k h=>hr k (List.mem_of_mem_drop h)) h2⟩
 | _ =>
  intro x ks hr h
  match ks,h with
  | [k],h=>exact isRf_congr hk (hr k List.mem_cons_self) h
theorem isH_congr {lm':Nat->Option Blk} {kc b:Nat} (hk:lm' kc=lm kc) {v:AV} {d:Dat} (hr:∀ j ∈ rdH lm v,lm' j=lm j) (h:IsH lm kc b d v):IsH lm' kc b d v:=by
 unfold IsH at h ⊢
 split at h
 ·exact isRf_congr hk hr h
 ·rename_i f ks
  unfold IsCk at h ⊢
  split at h
  ·exact ⟨h.1,isKs_congr hk (fun k hk j hj=>hr j (List.mem_flatMap.2 ⟨k,hk,hj⟩)) h.2⟩
  ·exact h.elim
 ·exact ⟨h.1,isH0_congr hk (fun k hk=>hr k hk) h.2⟩
 ·rename_i h1 h2 h3
  refine IsV_congr (fun k hk=>?_) h
  unfold lmQ
  rw [hr k ?_]
  unfold rdH
  split
  ·rename_i k0; exact absurd rfl (h1 k0)
  ·rename_i f ks; exact absurd rfl (h2 f ks)
  ·exact hk
theorem all2_datH {w:World} {a:Act} {M:Mm} {Γ:Asg} {R:Dat->AV->Prop} {S:Nat->Prop}:∀ {vs:List AV} {xs:List Operand} {args:List Dat},All2 (fun v x=>ARep c M Γ w v (a.eval x)) vs xs->All2 (fun v d=>R d v) vs args →
  (∀ v d u,v ∈ vs->ARep c M Γ w v u->R d v->∃ fp,DRep w u d fp/\∀ b ∈ fp,S b)->All2 (fun v d=>∃ fp,DRep w v d fp/\∀ b ∈ fp,S b) (xs.map a.eval) args
 | [],[],[],_,_,_=>trivial
 | v :: vs,x :: xs,d :: args,⟨h1,h2⟩,⟨h3,h4⟩,hf=>⟨hf v d _ List.mem_cons_self h1 h3,all2_datH h2 h4 fun v d u hv=>hf v d u (List.mem_cons_of_mem _ hv)⟩
 | [],_ :: _,_,h,_,_=>h.elim
 | [],[],_ :: _,_,h,_=>h.elim
 | _ :: _,[],_,h,_,_=>h.elim
 | _ :: _,_ :: _,[],_,h,_=>h.elim
theorem resAV_rep {M:Mm} {Γ:Asg} {w:World} {n:Nat} {S:Nat->Prop} {res:List Dat} {v:Value} (hf:(res.all fun d=>d.1.flat)=true) (h:ResOK false n S w v res):VRep c M Γ w (resAV res) v:=by
 have key:∀ {us:List Value} {ds:List Dat},(ds.all fun d=>d.1.flat)=true->All2 (DRes false n S w) us ds->All2 (ARep c M Γ w) (ds.map fun d=>av d.1 d.2) us:=by
  intro us ds
  induction ds generalizing us with
  | nil=>intro _ h; match us,h with|[],_=>trivial
  | cons d ds ih =>
   intro hf h
   match us,h with
   | u :: us,⟨⟨fp,h1,_⟩,h2⟩ =>
    rw [List.all_cons,Bool.and_eq_true] at hf
    refine ⟨av_rep h1 fun b hb=>?_,ih hf.2 h2⟩
    obtain ⟨cs,_,hr⟩:=h1
    rw [flat_rep hf.1 hr] at hb; cases hb
 match res,h with
 | [d],⟨fp,h1,_⟩ =>
  rw [List.all_cons,Bool.and_eq_true] at hf
  refine arep_vrep (av_rep h1 fun b hb=>?_)
  obtain ⟨cs,_,hr⟩:=h1
  rw [flat_rep hf.1 hr] at hb; cases hb
 | [],h=>obtain ⟨us,e,h⟩:=h; exact ⟨us,e,key hf h⟩
 | d :: d' :: ds,h=>obtain ⟨us,e,h⟩:=h; exact ⟨us,e,key hf h⟩
theorem aCallH_ok {fop:Operand} {xs:Array Operand} {tys:Array TypeId} (ho:o.op=.call { callee:=.value fop,args:=xs,argTypes:=tys }) {f:FuncId} {vs:List AV} (hf:ev lt fop=some (.sc (.func (.func f) #[] #[]))) (hvs:evs lt xs.toList=some vs) (hok:vs.all AV.ok=true)
  (h:CallH P lm K f vs):∃ e,K e/\SOK P c lt lm nx o e:=by
 obtain ⟨args,res,kc,hfn,hfl,hargs,hK⟩:=h
 refine ⟨_,hK,?_⟩
 clear hK
 have hrows:∀ v ∈ vs,∀ k ∈ rdH lm v,k ∈ kc :: vs.flatMap (rdH lm):=fun v hv k hk=>List.mem_cons_of_mem _ (List.mem_flatMap.2 ⟨v,hv,hk⟩)
 refine ⟨fun p hp=>(by cases hp),fun σ Γ a w hs hl hm hn hd K Q hK=>?_⟩
 obtain ⟨hr,hv⟩:=call_run ho hf hvs hok (hfn 0).1 σ Γ a w hs hl
 unfold Oper.wp
 rw [hr,Oper.upon_enter]
 have hma:xs.map a.eval=(xs.toList.map a.eval).toArray:=Array.toList_inj.1 (by rw [Array.toList_map])
 rw [hma]
 obtain ⟨b,hb1,hb2⟩:=addr_ex hs (hm kc List.mem_cons_self)
 have hda:=all2_datH (S:=fun _=>True) hv (hargs b hb2) (fun v d u hvm hvr hi=>by
  obtain ⟨fp,h1,_⟩:=isH_rep hs hb1 hvr (isH_congr (hm kc List.mem_cons_self) (fun j hj=>hm j (hrows v hvm j hj)) hi)
  exact ⟨fp,h1,fun _ _=>trivial⟩)
 refine ((hfn b).2 w _ _ (cg_gw hs) hda).mono ?_
 rintro e w' ⟨hb,u,rfl,hres⟩
 refine hK Γ _ _ ?_
 have:=(hs.frame hb).put (d:=o.dst) (resAV_rep hfl hres) (fun x hx=>hd x hx)
 unfold St.app
 cases hdst:o.dst<;>simp only [hdst,St.put,List.nil_append] at this ⊢<;>exact this
theorem aCallM_ok {fop:Operand} {xs:Array Operand} {tys:Array TypeId} (ho:o.op=.call { callee:=.value fop,args:=xs,argTypes:=tys }) {f:FuncId} {vs:List AV} (hf:ev lt fop=some (.sc (.func (.func f) #[] #[]))) (hvs:evs lt xs.toList=some vs) (hok:vs.all AV.ok=true)
  (h:CallM P lm K f vs):∃ e,K e/\SOK P c lt lm nx o e:=by
 obtain ⟨args,res,kc,g,g',hfn,hargs,h⟩:=h
 split at h
 ·rename_i xo ver g0 hkc
  obtain ⟨rfl,hK⟩:=h
  refine ⟨_,hK,?_⟩
  clear hK
  have hrows:∀ v ∈ vs,∀ k ∈ rdH lm v,k ∈ kc :: vs.flatMap (rdH lm):=fun v hv k hk=>List.mem_cons_of_mem _ (List.mem_flatMap.2 ⟨v,hv,hk⟩)
  refine ⟨fun p hp=>(by rw [List.mem_singleton] at hp; subst hp; exact .inr List.mem_cons_self),fun σ Γ a w hs hl hm hn hd K Q hK=>?_⟩
  obtain ⟨hr,hv⟩:=call_run ho hf hvs hok hfn.1 σ Γ a w hs hl
  unfold Oper.wp
  rw [hr,Oper.upon_enter]
  have hma:xs.map a.eval=(xs.toList.map a.eval).toArray:=Array.toList_inj.1 (by rw [Array.toList_map])
  rw [hma]
  have hk':=(hm kc List.mem_cons_self).trans hkc
  obtain ⟨b,hb1,hb2⟩:=addr_ex hs (hm kc List.mem_cons_self)
  have hbb:oblk (.map g0) (Γ.ov kc xo)=some b:=hb1 _ hk'
  obtain ⟨b0,ob,q1,q2,q3,q4,es,ck,rfl,q5⟩:=hs.mm kc _ hk'
  rw [hbb] at q1; injection q1 with q1; subst q1
  have hda:=all2_datH (S:=fun y=>y ≠ b) hv (hargs b hb2) (fun v d u hvm hvr hi=>by
   obtain ⟨fp,h1,h2⟩:=isH_rep hs hb1 hvr (isH_congr (hm kc List.mem_cons_self) (fun j hj=>hm j (hrows v hvm j hj)) hi)
   refine ⟨fp,h1,fun y hy e=>?_⟩
   subst e
   rcases h2 y hy with hg|⟨k,B,hne,hB,hmu⟩
   ·exact hg.2 ⟨kc,_,hk',hbb⟩
   ·exact hne (hs.inj k kc B _ y hB hk' hmu hbb))
  refine (hfn.2.2 w b _ _ _ (cg_gw hs) (cg_ne q2.or) q3 ⟨es,ck,rfl,q5⟩ (fun h=>h rfl) hda).mono ?_
  rintro en w' ⟨hbx,⟨o',ho',es',ck',rfl,hm'⟩,u,rfl,hres⟩
  let w1:World:={ w with heap:=w.heap.setIfInBounds b (.map es' ck') }
  have hlt:b < w.heap.size:=lt_of_heap q3
  have hw1:∀ i,w1.heap[i]? = if b=i then some (.map es' ck') else w.heap[i]?:=fun i=>by
   show (w.heap.setIfInBounds b _)[i]? = _
   rw [Array.getElem?_setIfInBounds]
   split
   ·rename_i e; subst e; first|rfl|rw [if_pos hlt]
   ·rfl
  have hs1:Sim c ⟨σ.tmps,(kc,.ob xo ver (.map g')) :: σ.mem⟩ Γ a w1:=hs.setOb (d':=.map g') hk' hbb (by
   obtain ⟨m,e⟩:=q4
   rw [e] at hbb ⊢; exact hbb) ((hw1 b).trans (if_pos rfl)) ⟨q4,es',ck',rfl,hm'⟩ rfl rfl rfl (by simp [w1]) (fun i hi=>(hw1 i).trans (if_neg (Ne.symm hi)))
  have hb1:Below w1.heap.size w1 w':=by
   have hsz:w1.heap.size=w.heap.size:=by simp [w1]
   refine ⟨hbx.os,hbx.tape,hbx.output,by rw [hsz]; exact hbx.size,fun i hi=>?_⟩
   rw [hsz] at hi
   rw [hw1]
   split
   ·rename_i e; subst e; exact ho'
   ·rename_i e; exact hbx.block i hi (Ne.symm e)
  refine hK Γ _ _ ?_
  have:=(hs1.frame hb1).put (d:=o.dst) (resAV_rep hfn.2.1 hres) (fun x hx=>hd x hx)
  unfold St.app
  cases hdst:o.dst<;>simp only [hdst,St.put,List.cons_append,List.nil_append] at this ⊢<;>exact this
 ·exact h.elim
theorem aCallE_ok {fop:Operand} {xs:Array Operand} {tys:Array TypeId} (ho:o.op=.call { callee:=.value fop,args:=xs,argTypes:=tys }) {f:FuncId} {vs:List AV} (hf:ev lt fop=some (.sc (.func (.func f) #[] #[]))) (hvs:evs lt xs.toList=some vs) (hok:vs.all AV.ok=true)
  (h:CallE P lm K f vs):∃ e,K e/\SOK P c lt lm nx o e:=by
 obtain ⟨args,res,kc,zs,zs',hfn,hzs,hargs,h⟩:=h
 split at h
 ·rename_i xo cs hkc
  obtain ⟨rfl,hK⟩:=h
  refine ⟨_,hK,?_⟩
  clear hK
  have hrows:∀ v ∈ vs,∀ k ∈ rdH lm v,k ∈ kc :: vs.flatMap (rdH lm):=fun v hv k hk=>List.mem_cons_of_mem _ (List.mem_flatMap.2 ⟨v,hv,hk⟩)
  refine ⟨fun p hp=>(by rw [List.mem_singleton] at hp; subst hp; exact .inr List.mem_cons_self),fun σ Γ a w hs hl hm hn hd K Q hK=>?_⟩
  obtain ⟨hr,hv⟩:=call_run ho hf hvs hok hfn.1 σ Γ a w hs hl
  unfold Oper.wp
  rw [hr,Oper.upon_enter]
  have hma:xs.map a.eval=(xs.toList.map a.eval).toArray:=Array.toList_inj.1 (by rw [Array.toList_map])
  rw [hma]
  have hk':=(hm kc List.mem_cons_self).trans hkc
  obtain ⟨b,hb1,hb2⟩:=addr_ex hs (hm kc List.mem_cons_self)
  have hbb:Γ.loc kc xo=b:=hb1 _ hk'
  obtain ⟨_,us,e,hg,hc⟩:=hs.mm kc _ hk'
  obtain ⟨hus,_⟩:=sc_vals hc
  rw [hbb] at hg
  have hda:=all2_datH (S:=fun y=>y ≠ b) hv (hargs b hb2) (fun v d u hvm hvr hi=>by
   obtain ⟨fp,h1,h2⟩:=isH_rep hs hb1 hvr (isH_congr (hm kc List.mem_cons_self) (fun j hj=>hm j (hrows v hvm j hj)) hi)
   refine ⟨fp,h1,fun y hy e=>?_⟩
   subst e
   rcases h2 y hy with hg|⟨k,B,hne,hB,hmu⟩
   ·exact hg.2 ⟨kc,_,hk',hbb.symm⟩
   ·exact hne (hs.inj k kc B _ y hB hk' hmu hbb.symm))
  refine (hfn.2.2 w b _ _ _ (cg_gw hs) (cg_ne (hs.mut_lt hk' hbb.symm).1) hg ⟨e,by rw [<-hus]⟩ (fun h=>h rfl) hda).mono ?_
  rintro en w' ⟨hbx,⟨o',ho',e',rfl⟩,u,rfl,hres⟩
  have hlt:b < w.heap.size:=lt_of_heap hg
  have hs1:=hs.setBox' (cs':=zs'.map fun z=>.sc z) (us:=zs'.toArray) (e:=e') hk' (vals_sc hzs)
  rw [hbb] at hs1
  have hw1:∀ i,(w.heap.setIfInBounds b (.cells zs'.toArray e' (0,0)))[i]? = if b=i then some (.cells zs'.toArray e' (0,0)) else w.heap[i]?:=fun i=>by
   rw [Array.getElem?_setIfInBounds]
   split
   ·rename_i e; subst e; first|rfl|rw [if_pos hlt]
   ·rfl
  have hb1:Below { w with heap:=w.heap.setIfInBounds b (.cells zs'.toArray e' (0,0)) }.heap.size { w with heap:=w.heap.setIfInBounds b (.cells zs'.toArray e' (0,0)) } w':=by
   refine ⟨hbx.os,hbx.tape,hbx.output,by simpa using hbx.size,fun i hi=>?_⟩
   have hi:i < w.heap.size:=by simpa using hi
   show w'.heap[i]? = (w.heap.setIfInBounds b (.cells zs'.toArray e' (0,0)))[i]?
   rw [hw1]
   split
   ·rename_i e; subst e; exact ho'
   ·rename_i e; exact hbx.block i hi (Ne.symm e)
  refine hK Γ _ _ ?_
  have:=(hs1.frame hb1).put (d:=o.dst) (resAV_rep hfn.2.1 hres) (fun x hx=>hd x hx)
  unfold St.app
  cases hdst:o.dst<;>simp only [hdst,St.put,List.cons_append,List.nil_append] at this ⊢<;>exact this
 ·exact h.elim
theorem Sim.addOb {σ:St} {Γ:Asg} {a:Act} {w w':World} (h:Sim c σ Γ a w) (hb:Below w.heap.size w w') {k:Nat} (hk:look σ.mem k=none) {d:ObD} {u:Value} {o:Obj} {m:Nat} (hu:oblk d u=some m) (hm:w.heap.size<=m) (ho:w'.heap[m]? = some o) (hI:d.I u o):Sim c ⟨σ.tmps,(k,.ob none 0 d) :: σ.mem⟩ (Γ.setR k u []) a w':=by
 have ch:Chg c σ Γ w k (.ob none 0 d) (Γ.setR k u []) w':=by
  refine ⟨Asg.setR_ne Γ k _ _,hb.os,hb.tape,hb.output,hb.size,fun i hi _=>hb.block i hi,fun b' hm'=>.inl ?_,fun b' hb'=>by simp [Blk.ofp] at hb'⟩
  have hm2:oblk d ((Γ.setR k u []).hd k)=some b':=hm'
  rw [Asg.setR_hd,hu] at hm2
  injection hm2 with hm2
  omega
 refine h.chg ch ?_ ?_ ?_ ?_ (by intro t l h; cases h) (.inr ?_)
 ·rintro ver u ⟨_,B,hB,_⟩; rw [hk] at hB; cases hB
 ·rintro ver i off u ⟨_,B,hB,_⟩; rw [hk] at hB; cases hB
 ·intro x cs hB; rw [hk] at hB; cases hB
 ·intro _
  have e:(Γ.setR k u []).ov k none=u:=Asg.setR_hd Γ k u []
  exact ⟨m,o,by rw [e]; exact hu,.inl (Nat.le_trans h.hb hm),ho,by rw [e]; exact hI⟩
 ·rintro ver off u ⟨_,B,hB,_⟩; rw [hk] at hB; cases hB
theorem Sim.addBox {σ:St} {Γ:Asg} {a:Act} {w w':World} (h:Sim c σ Γ a w) (hb:Below w.heap.size w w') {k:Nat} (hk:look σ.mem k=none) {b:Nat} (hm:w.heap.size<=b) {us:Array Value} {e:TypeId} (hg:w'.heap[b]? = some (.cells us e (0,0))) {cs:List AV}
  (hc:(∀ v u,CRep c σ.mem Γ w v u->CRep c ((k,.box cs) :: σ.mem) (Γ.setB k b) w' v u)->All2 (CRep c ((k,.box cs) :: σ.mem) (Γ.setB k b) w') cs us.toList):Sim c ⟨σ.tmps,(k,.box cs) :: σ.mem⟩ (Γ.setB k b) a w':=by
 refine h.chg ⟨Asg.setB_ne _ k _,hb.os,hb.tape,hb.output,hb.size,fun i hi _=>hb.block i hi,fun b' hb'=>.inl ?_,fun b' hb'=>by simp [Blk.ofp] at hb'⟩ ?_ ?_ ?_ ?_
 ·have:b'=(Γ.setB k b).β k:=hb'
  rw [Asg.setB_β] at this; omega
 ·rintro ver u ⟨_,B,hB,_⟩; rw [hk] at hB; cases hB
 ·rintro ver i off u ⟨_,B,hB,_⟩; rw [hk] at hB; cases hB
 ·intro x cs hB; rw [hk] at hB; cases hB
 ·intro hcr
  exact ⟨(by show c.base<=(Γ.setB k b).β k; rw [Asg.setB_β]; exact Nat.le_trans h.hb hm),us,e,(by show w'.heap[(Γ.setB k b).β k]? = _; rw [Asg.setB_β]; exact hg),hc hcr⟩
theorem Sim.recell {σ:St} {Γ:Asg} {a:Act} {w:World} (h:Sim c σ Γ a w) {k:Nat} {cs cs':List AV} {us:Array Value} {e:TypeId} (hk:look σ.mem k=some (.box cs)) (hg:w.heap[Γ.β k]? = some (.cells us e (0,0)))
  (hc:(∀ v u,CRep c σ.mem Γ w v u->CRep c ((k,.box cs') :: σ.mem) Γ w v u)->All2 (CRep c ((k,.box cs') :: σ.mem) Γ w) cs' us.toList):Sim c ⟨σ.tmps,(k,.box cs') :: σ.mem⟩ Γ a w:=by
 refine h.chg ⟨fun j _=>⟨rfl,rfl,rfl⟩,rfl,rfl,rfl,Nat.le_refl _,fun _ _ _=>rfl,fun b hb=>.inr ⟨_,hk,hb⟩,fun b hb=>by simp [Blk.ofp] at hb⟩ ?_ ?_ ?_ ?_
 ·rintro ver u ⟨_,B,hB,_⟩; rw [hk] at hB; injection hB with hB; subst hB; trivial
 ·rintro ver i off u ⟨h1,B,hB,_⟩; exact ⟨h1,_,look_self ..,fun e t v o l hh=>by cases hh⟩
 ·intro x2 cs2 h2
  rw [hk] at h2
  injection h2 with h2
  injection h2 with h3 h4
  subst h3
  exact ⟨⟨_,rfl⟩,rfl⟩
 ·intro hcr
  obtain ⟨h1,_⟩:=h.mm k _ hk
  exact ⟨h1,us,e,hg,hc hcr⟩
theorem below_cut {w w':World} {n b:Nat} (h:Below n w w') (hn:n=w.heap.size) (h1:w.heap.size<=b) (h2:b < w'.heap.size):Below w.heap.size w { w' with heap:=w'.heap.extract 0 b }/\({ w' with heap:=w'.heap.extract 0 b }:World).heap.size=b/\Below ({ w' with heap:=w'.heap.extract 0 b }:World).heap.size { w' with heap:=w'.heap.extract 0 b } w'/\∀ i,i < b->({ w' with heap:=w'.heap.extract 0 b }:World).heap[i]? = w'.heap[i]?:=by
 subst hn
 have hz:(w'.heap.extract 0 b).size=b:=by simp; omega
 have hw:∀ i,i < b->(w'.heap.extract 0 b)[i]? = w'.heap[i]?:=fun i hi=>by rw [Array.getElem?_extract,if_pos (by omega),Nat.zero_add]
 exact ⟨⟨h.os,h.tape,h.output,(by show w.heap.size<=(w'.heap.extract 0 b).size; omega),fun i hi=>(hw i (by omega)).trans (h.block i hi)⟩,hz,⟨rfl,rfl,rfl,(by show (w'.heap.extract 0 b).size<=_; omega),fun i hi=>(hw i (by have hi:i < (w'.heap.extract 0 b).size:=hi; omega)).symm⟩,hw⟩
theorem Sim.addPlan {σt:Tm} {M:Mm} {Γ:Asg} {a:Act} {w w':World} (h:Sim c ⟨σt,M⟩ Γ a w) (hb:Below w.heap.size w w') {k:Nat} (hk0:look M k=none) (hk1:look M (k+1)=none) {b m:Nat} (hbs:w.heap.size<=b) (hms:w.heap.size<=m) (hbm:b ≠ m) {us:List Value} {e:TypeId} (hgb:w'.heap[b]? = some (.cells (us++[Value.map (some m)]).toArray e (0,0)))
  {es:Array MapEntry} {ck:Nat} (hgm:w'.heap[m]? = some (.map es ck)) (hmi:MapIs es []) {t:Ty} {x:t.den} {fp:List Nat} (hrp:t.rp.rep w' us x fp) (hfp:∀ y ∈ fp,(c.S y\/c.base<=y)/\¬ Mut M Γ y/\y ≠ b/\y ≠ m) :
  ∃ Γ',Sim c ⟨σt,(k,.box (cel t x++[.row (k+1) 0])) :: (k+1,.ob none 0 (.map [])) :: M⟩ Γ' a w'/\Γ'.β k=b:=by
 have hbl:b < w'.heap.size:=lt_of_heap hgb
 have hml:m < w'.heap.size:=lt_of_heap hgm
 have hI:(ObD.map []).I (.map (some m)) (.map es ck):=⟨⟨m,rfl⟩,es,ck,rfl,hmi⟩
 have hgd:∀ {Γ':Asg} {cs:List AV},(∀ j,j ≠ k->j ≠ k+1->Γ'.β j=Γ.β j/\Γ'.hd j=Γ.hd j/\Γ'.fp j=Γ.fp j)->Γ'.β k=b->(∀ y,(Blk.ob none 0 (.map [])).mut Γ' (k+1) y->y=m)->∀ {M':Mm},(∀ j B,look M' j=some B->(j=k/\∃ cs,B=.box cs)\/(j=k+1/\B=.ob none 0 (.map []))\/(j ≠ k/\j ≠ k+1/\look M j=some B))->∀ y ∈ fp,Gd c M' Γ' y:=by
  intro Γ' _ hΓ h0 h1 M' hM y hy
  obtain ⟨g1,g2,g3,g4⟩:=hfp y hy
  refine ⟨g1,?_⟩
  rintro ⟨j,B,hj,hmu⟩
  rcases hM j B hj with ⟨rfl,cs,rfl⟩|⟨rfl,rfl⟩|⟨n0,n1,hj⟩
  ·have:y=Γ'.β j:=hmu
   rw [h0] at this; exact g3 this
  ·exact g4 (h1 y hmu)
  ·refine g2 ⟨j,B,hj,?_⟩
   obtain ⟨e1,e2,e3⟩:=hΓ j n0 n1
   cases B<;>simp only [Blk.mut,Asg.loc,Asg.ov,e1,e2,e3] at hmu ⊢<;>exact hmu
 rcases Nat.lt_or_ge m b with hlt|hge
 ·obtain ⟨c1,c2,c3,c4⟩:=below_cut hb rfl hbs hbl
  have s1:=h.addOb c1 hk1 (d:=.map []) (u:=.map (some m)) rfl hms ((c4 m hlt).trans hgm) hI
  have hk0':look ((k+1,Blk.ob none 0 (.map [])) :: M) k=none:=by rw [look_ne _ _ (by omega)]; exact hk0
  have hhd:((Γ.setR (k+1) (.map (some m)) []).setB k b).hd (k+1)=.map (some m):=Asg.setR_hd Γ (k+1) (.map (some m)) []
  refine ⟨_,s1.addBox c3 hk0' (b:=b) (by rw [c2]; exact Nat.le_refl _) hgb (cs:=cel t x++[.row (k+1) 0]) fun _=>?_,Asg.setB_β _ _ _⟩
  rw [List.toList_toArray]
  refine All2.app (cel_rep hrp (hgd (cs:=[]) (fun j h0 h1=>?_) (Asg.setB_β _ _ _) (fun y hy=>?_) (fun j B hj=>?_))) ⟨⟨rfl,_,(look_ne _ _ (by omega)).trans (look_self ..),Nat.le_refl _,fun _=>hhd.symm⟩,trivial⟩
  ·obtain ⟨e1,e2,e3⟩:=Asg.setR_ne Γ (k+1) (.map (some m)) [] j h1
   obtain ⟨f1,f2,f3⟩:=Asg.setB_ne (Γ.setR (k+1) (.map (some m)) []) k b j h0
   exact ⟨f1.trans e1,f2.trans e2,f3.trans e3⟩
  ·have hm2:oblk (.map []) (((Γ.setR (k+1) (.map (some m)) []).setB k b).hd (k+1))=some y:=hy
   rw [hhd] at hm2
   injection hm2 with hm2
   exact hm2.symm
  ·simp only [look] at hj
   split at hj
   ·rename_i e; injection hj with hj; exact .inl ⟨e,_,hj.symm⟩
   ·split at hj
    ·rename_i e; injection hj with hj; exact .inr (.inl ⟨e,hj.symm⟩)
    ·rename_i e1 e2; exact .inr (.inr ⟨e1,e2,hj⟩)
 ·obtain ⟨c1,c2,c3,c4⟩:=below_cut hb rfl hms hml
  have hlt:b < m:=by omega
  have hrp':t.rp.rep { w' with heap:=w'.heap.extract 0 m } us x fp->True:=fun _=>trivial
  have s1:=h.addBox (k:=k) (b:=b) (cs:=(us++[Value.map (some m)]).map fun _=>.ex .opq .int (some (0:Int))) c1 hk0 hbs ((c4 b hlt).trans hgb) fun _=>by
   rw [List.toList_toArray]
   have key:∀ (l:List Value) {M:Mm} {Γ:Asg} {w:World},(∀ v ∈ l,v.oneCell'=true)->All2 (CRep c M Γ w) (l.map fun _=>AV.ex .opq .int (some (0:Int))) l:=by
    intro l
    induction l with
    | nil=>intro M Γ w _; trivial
    | cons v l ih=>intro M Γ w h; exact ⟨⟨[],⟨v,rfl,h v List.mem_cons_self,rfl⟩,fun b hb=>by cases hb⟩,ih fun v hv=>h v (List.mem_cons_of_mem _ hv)⟩
   refine key _ fun v hv=>?_
   rcases List.mem_append.1 hv with hv|hv
   ·exact t.rp.one hrp v hv
   ·rw [List.mem_singleton.1 hv]; rfl
  have hk1':∀ {B:Blk},look ((k,B) :: M) (k+1)=none:=by intro B; rw [look_ne _ _ (by omega)]; exact hk1
  have s2:=s1.addOb c3 hk1' (d:=.map []) (u:=.map (some m)) rfl (by rw [c2]; exact Nat.le_refl _) hgm hI
  have hβ:((Γ.setB k b).setR (k+1) (.map (some m)) []).β k=b:=Asg.setB_β Γ k b
  have hhd:((Γ.setB k b).setR (k+1) (.map (some m)) []).hd (k+1)=.map (some m):=Asg.setR_hd (Γ.setB k b) (k+1) (.map (some m)) []
  have s3:=s2.recell (k:=k) (cs':=cel t x++[.row (k+1) 0]) ((look_ne _ _ (by omega)).trans (look_self ..)) (by rw [hβ]; exact hgb) fun _=>by
   rw [List.toList_toArray]
   refine All2.app (cel_rep hrp (hgd (cs:=[]) (fun j h0 h1=>?_) hβ (fun y hy=>?_) (fun j B hj=>?_))) ⟨⟨rfl,_,(look_ne _ _ (by omega)).trans (look_self ..),Nat.le_refl _,fun _=>hhd.symm⟩,trivial⟩
   ·obtain ⟨e1,e2,e3⟩:=Asg.setR_ne (Γ.setB k b) (k+1) (.map (some m)) [] j h1
    obtain ⟨f1,f2,f3⟩:=Asg.setB_ne Γ k b j h0
    exact ⟨e1.trans f1,e2.trans f2,e3.trans f3⟩
   ·have hm2:oblk (.map []) (((Γ.setB k b).setR (k+1) (.map (some m)) []).hd (k+1))=some y:=hy
    rw [hhd] at hm2
    injection hm2 with hm2
    exact hm2.symm
   ·simp only [look] at hj
    split at hj
    ·rename_i e; injection hj with hj; exact .inl ⟨e,_,hj.symm⟩
    ·split at hj
     ·rename_i e; injection hj with hj; exact .inr (.inl ⟨e,hj.symm⟩)
     ·rename_i e1 e2
      try rw [if_neg e1] at hj
      exact .inr (.inr ⟨e1,e2,hj⟩)
  refine ⟨_,s3.same ⟨fun _=>rfl,fun j=>?_⟩,hβ⟩
  simp only [look]
  by_cases h0:j=k
  ·rw [if_pos h0,if_pos h0]
  ·rw [if_neg h0,if_neg h0]
   by_cases h1:j=k+1
   ·rw [if_pos h1,if_pos h1]
   ·rw [if_neg h1,if_neg h1]; first|rfl|rw [if_neg h0]
theorem aCallNP_ok (hnx:∀ k,nx<=k->lm k=none) {fop:Operand} {xs:Array Operand} {tys:Array TypeId} (ho:o.op=.call { callee:=.value fop,args:=xs,argTypes:=tys }) {f:FuncId} {vs:List AV} (hf:ev lt fop=some (.sc (.func (.func f) #[] #[]))) (hvs:evs lt xs.toList=some vs) (hok:vs.all AV.ok=true)
  (h:CallNP P lm nx K f vs):∃ e,K e/\SOK P c lt lm nx o e:=by
 obtain ⟨args,t,x,hfn,hargs,hK⟩:=h
 refine ⟨_,hK,?_⟩
 clear hK
 have hrows:∀ v ∈ vs,∀ j ∈ v.rows,j ∈ vs.flatMap AV.rows:=fun v hv j hj=>List.mem_flatMap.2 ⟨v,hv,hj⟩
 refine ⟨fun p hp=>?_,fun σ Γ a w hs hl hm hn hdd K Q hK=>?_⟩
 ·rcases List.mem_cons.1 hp with rfl|hp
  ·exact .inl (Nat.le_refl _)
  ·rcases List.mem_cons.1 hp with rfl|hp
   ·exact .inl (Nat.le_succ _)
   ·exact .inr (frzU_mem hp)
 obtain ⟨hr,hv⟩:=call_run ho hf hvs hok hfn.1 σ Γ a w hs hl
 unfold Oper.wp
 rw [hr,Oper.upon_enter]
 have hma:xs.map a.eval=(xs.toList.map a.eval).toArray:=Array.toList_inj.1 (by rw [Array.toList_map])
 rw [hma]
 have hf':=hs.frz (ks:=vs.flatMap AV.rows)
 have hcongr:frzU (look σ.mem) (vs.flatMap AV.rows)=frzU lm (vs.flatMap AV.rows):=frzU_congr fun k hk=>hm k hk
 rw [hcongr] at hf'
 have hvf:=(call_run ho hf hvs hok hfn.1 _ Γ a w hf' hl).2
 have hda:=all2_dat (S:=fun b=>Gd c (frzU lm (vs.flatMap AV.rows)++σ.mem) Γ b) hvf hargs (fun v d u hvm hvr hi=>by
  have hi:IsV (fun j=>(look (frzU lm (vs.flatMap AV.rows)) j).or (lm j)) d v:=hi
  obtain ⟨fp,h1,_,h3⟩:=hf'.isVRep hvr (IsV_congr (fun k hk=>by rw [look_app,hm k (hrows v hvm k hk)]) hi)
  refine ⟨fp,h1,h3 fun k hk e t v' o' l hrow=>?_⟩
  rw [<-hcongr] at hrow
  exact (frz_no hrow).1 (hrows v hvm k hk))
 refine (hfn.2 w _ _ (cg_gw hs) hda).mono ?_
 rintro en w' ⟨hb,b,m,e,us,fp,rfl,hbs,hms,hbm,hgb,⟨om,hgm,es,ck,rfl,hmi⟩,hrp,hfp⟩
 have hnone:∀ j,nx<=j->j=nx\/j=nx+1->look (frzU lm (vs.flatMap AV.rows)++σ.mem) j=none:=fun j hj hj2=>by
  rw [app_look2 (frzU_nob (by rw [hnx j hj]; rfl))]
  by_cases hin:j ∈ vs.flatMap AV.rows
  ·rw [hm j hin]; exact hnx j hj
  ·rcases hj2 with rfl|rfl
   ·exact hn (j,_) List.mem_cons_self hin
   ·exact hn (nx+1,_) (List.mem_cons_of_mem _ List.mem_cons_self) hin
 have hn0:=hnone nx (Nat.le_refl _) (.inl rfl)
 have hn1:=hnone (nx+1) (Nat.le_succ _) (.inr rfl)
 generalize hM:frzU lm (vs.flatMap AV.rows)++σ.mem=M at hf' hvf hda hn0 hn1 hfp
 have hfp':∀ y ∈ fp,(c.S y\/c.base<=y)/\¬ Mut M Γ y:=fun y hy=>by
  rcases (hfp y hy).1 with h1|h1
  ·exact h1
  ·exact ⟨.inr (Nat.le_trans hs.hb h1),fun ⟨k,B,hB,hmb⟩=>by have:=(hf'.mut_lt hB hmb).2; omega⟩
 obtain ⟨Γ',s2,hloc⟩:∃ Γ',Sim c ⟨σ.tmps,(nx,.box (cel t x++[.row (nx+1) 0])) :: (nx+1,.ob none 0 (.map [])) :: M⟩ Γ' a w'/\Γ'.β nx=b:=hf'.addPlan hb hn0 hn1 hbs hms hbm hgb hgm hmi hrp fun y hy=>⟨(hfp' y hy).1,(hfp' y hy).2,(hfp y hy).2⟩
 refine hK Γ' _ _ ?_
 have:=s2.put (d:=o.dst) (v:=.ptr nx 0) (u:=.pointer (some ⟨b,0,none⟩)) ⟨none,_,look_self ..,by show _=Value.pointer (some ⟨Γ'.β nx,0,none⟩); rw [hloc]⟩ (fun x hx=>hdd x hx)
 unfold St.app
 rw [<-hM] at this
 cases hdst:o.dst<;>simp only [hdst,St.put,List.cons_append] at this ⊢<;>exact this
theorem cg_callee {σ:St} {Γ:Asg} {a:Act} {w:World} {M:Mm} {n:Nat} (hs:Sim c σ Γ a w) (hM:IsEs (look σ.mem) (M.map (·.1)) M):CG P (cxA c σ Γ w M n):=by
 have hcg:Nonempty (CG P c):=inferInstance
 obtain ⟨hcg⟩:=hcg
 have hn:∀ g,P.globalNamed tabName=some g->g < w.heap.size/\¬ Mut M Γ g:=fun g hg=>by
  obtain ⟨h1,h2⟩:=hcg.ne g hg
  refine ⟨Nat.lt_of_lt_of_le h1 hs.hb,fun hm=>?_⟩
  obtain ⟨k,B0,_,q2,q3,_⟩:=mutM hs hM hm
  rcases (hs.mut_lt q2 q3).1 with h3|h3
  ·omega
  ·exact h2 h3
 exact ⟨fun w' hb=>(hcg.g w hs.below).upX hb hn,hn⟩
theorem aCallA_ok {f:FuncId} {vs:List AV} (hf:∀ (σ:St) (Γ:Asg) (a:Act) (w:World),Sim c σ Γ a w->(∀ t ∈ opnds o,look σ.tmps t=lt t)->∃ us:List Value,(execOp a.eval o).run P w=.ok (.enter f us.toArray) w/\All2 (fun v u=>ARep c σ.mem Γ w v u) vs us)
  (h:CallA P lm K f vs):∃ e,K e/\SOK P c lt lm nx o e:=by
 obtain ⟨vs0,M,M',v,hfn,hokM,hargs,hEs,hK⟩:=h
 have hdis:∀ k ∈ rowsA (M.map (·.1)) (vs.flatMap AV.rows),k ∉ M.map (·.1):=fun k hk=>(rowsA_mem.1 hk).2
 have hrows:∀ v ∈ vs,∀ k ∈ v.rows,k ∉ M.map (·.1)->k ∈ rowsA (M.map (·.1)) (vs.flatMap AV.rows):=fun v hv k hk hn=>rowsA_mem.2 ⟨List.mem_flatMap.2 ⟨v,hv,hk⟩,hn⟩
 generalize rowsA (M.map (·.1)) (vs.flatMap AV.rows)=R at *
 refine ⟨_,hK,fun p hp=>?_,fun σ Γ a w hs hl hm hn hd K Q hK=>?_⟩
 ·rcases List.mem_append.1 hp with hp|hp
  ·exact .inr (List.mem_append.2 (.inl (by rw [<-okM_keys hokM]; exact List.mem_map.2 ⟨p,hp,rfl⟩)))
  ·exact .inr (List.mem_append.2 (.inr (frzU_mem hp)))
 ·have hm1:∀ k ∈ M.map (·.1),look σ.mem k=lm k:=fun k hk=>hm k (List.mem_append.2 (.inl hk))
  have hm2:∀ k ∈ R,look σ.mem k=lm k:=fun k hk=>hm k (List.mem_append.2 (.inr hk))
  have hcongr:frzU (look σ.mem) R=frzU lm R:=frzU_congr fun k hk=>hm2 k hk
  have hf':=hs.frz (ks:=R)
  rw [hcongr] at hf'
  have hEs':IsEs (look (frzU lm R++σ.mem)) (M.map (·.1)) M:=isEs_congr (fun k hk=>by
   rw [look_app]
   cases hq:look (frzU lm R) k with
   | none=>exact hm1 k hk
   | some B =>
    obtain ⟨q,hq1,hq2⟩:=look_mem hq
    have:=frzU_mem hq1
    rw [hq2] at this
    exact absurd hk (hdis k this)) hEs
  obtain ⟨us,hrun,hus⟩:=hf _ Γ a w hf' hl
  have hno:∀ v ∈ vs,∀ k ∈ v.rows,k ∉ M.map (·.1)->∀ e t v' o l,look (frzU lm R++σ.mem) k ≠ some (.row e t v' o l):=fun v hv k hk hn e t v' o l hrow=>by
   rw [<-hcongr] at hrow
   exact (frz_no hrow).1 (hrows v hv k hk hn)
  have hdat:∀ v ∈ vs,∀ k ∈ v.rows,look (frzU lm R++σ.mem) k=lmF lm R false k:=fun v hv k hk=>by
   rw [look_app]
   by_cases hn:k ∈ M.map (·.1)
   ·rw [hm1 k hn]; rfl
   ·rw [hm2 k (hrows v hv k hk hn)]; rfl
  have hpc:∀ {u v':AV},(∀ k ver,u=.row k ver->look (frzU lm R++σ.mem) k=lmF lm R false k)->IsP (lmF lm R false) (M.map (·.1)) u v'->IsP (look (frzU lm R++σ.mem)) (M.map (·.1)) u v':=by
   intro u v' hk h
   cases v' with
   | sl t l =>
    rcases h with ⟨h1,h2⟩|h
    ·exact .inl ⟨(data_congr fun k ver e=>hk k ver e).trans h1,h2⟩
    ·exact .inr h
   | _=>exact h
  have hpa:∀ {u v':AV},u ∈ vs->IsPA (lmF lm R false) (M.map (·.1)) u v'->IsPA (look (frzU lm R++σ.mem)) (M.map (·.1)) u v':=by
   intro u v' hu h
   have one:∀ {v':AV},IsP (lmF lm R false) (M.map (·.1)) u v'->IsP (look (frzU lm R++σ.mem)) (M.map (·.1)) u v':=fun h=>hpc (fun k ver e=>hdat _ hu k (by rw [e]; simp [AV.rows])) h
   cases v' with
   | agg cs =>
    cases u with
    | agg cs0 =>
     have h:All2 (IsP (lmF lm R false) (M.map (·.1))) cs0 cs:=h
     have h2:All2 (IsP (look (frzU lm R++σ.mem)) (M.map (·.1))) cs0 cs:=h.mono fun x y hx hxy=>hpc (fun k ver e=>hdat _ hu k (List.mem_flatMap.2 ⟨x,hx,by rw [e]; simp⟩)) hxy
     exact h2
    | _=>exact h.elim
   | sc y=>exact one (v':=.sc y) h
   | sl t l=>exact one (v':=.sl t l) h
   | row k ver=>exact one (v':=.row k ver) h
   | ptr k off=>exact one (v':=.ptr k off) h
   | _=>exact h.elim
  have hargs':All2 (fun u v'=>(∀ k ∈ u.rows,k ∉ M.map (·.1)->∀ e t v o l,look (frzU lm R++σ.mem) k ≠ some (.row e t v o l))/\IsPA (look (frzU lm R++σ.mem)) (M.map (·.1)) u v') vs vs0 :=
   hargs.mono fun u v' hu h=>⟨fun k hk=>hno u hu k hk,hpa hu h⟩
  unfold Oper.wp
  rw [hrun,Oper.upon_enter]
  refine (hfn.2.2 (cxA c ⟨σ.tmps,frzU lm R++σ.mem⟩ Γ w M a.tmps.size) Γ a w us (cg_callee hf' hEs') rfl rfl (hf'.toA hEs' a hs.defs)
   (all2_two (R:=fun u x=>ARep c (frzU lm R++σ.mem) Γ w u x) (fun u v' x hu hq=>arep_toP hf' hEs' hq.1 hq.2 hu) hus hargs')).mono ?_
  rintro e w' ⟨u,Γ',a',n,rfl,hs',hvr⟩
  obtain ⟨Δ,hfin⟩:=hf'.fromA hEs' hokM (n:=n) hs'
  refine hK Δ _ _ ?_
  have hvr':VRep c (M'++(frzU lm R++σ.mem)) Δ w' v u:=by
   rcases hfn.2.1 with rfl|⟨x,rfl⟩
   ·obtain ⟨us,e,h⟩:=hvr
    exact ⟨us,e,by cases us with|nil=>trivial|cons=>exact h.elim⟩
   ·exact hvr
  have:=hfin.put (d:=o.dst) hvr' (fun x hx=>hd x hx)
  unfold St.app
  rw [List.append_assoc]
  cases hdst:o.dst<;>simp only [hdst,St.put] at this ⊢<;>exact this
theorem aCallL_ok (hnx:∀ k,nx<=k->lm k=none) {fop:Operand} {xs:Array Operand} {tys:Array TypeId} (ho:o.op=.call { callee:=.value fop,args:=xs,argTypes:=tys }) {f:FuncId} {vs:List AV} (hf:ev lt fop=some (.sc (.func (.func f) #[] #[]))) (hvs:evs lt xs.toList=some vs) (hok:vs.all AV.ok=true)
  (h:CallL P lm nx K f vs):∃ e,K e/\SOK P c lt lm nx o e:=by
 obtain ⟨args,te,t,l,hfn,hargs,hK⟩:=h
 refine ⟨_,hK,?_⟩
 clear hK
 have hrows:∀ v ∈ vs,∀ j ∈ v.rows,j ∈ vs.flatMap AV.rows:=fun v hv j hj=>List.mem_flatMap.2 ⟨v,hv,hj⟩
 refine ⟨fun p hp=>?_,fun σ Γ a w hs hl hm hn hdd K Q hK=>?_⟩
 ·rcases List.mem_cons.1 hp with rfl|hp
  ·exact .inl (Nat.le_refl _)
  ·exact .inr (frzU_mem hp)
 obtain ⟨hr,hv⟩:=call_run ho hf hvs hok hfn.1 σ Γ a w hs hl
 unfold Oper.wp
 rw [hr,Oper.upon_enter]
 have hma:xs.map a.eval=(xs.toList.map a.eval).toArray:=Array.toList_inj.1 (by rw [Array.toList_map])
 rw [hma]
 have hf':=hs.frz (ks:=vs.flatMap AV.rows)
 have hcongr:frzU (look σ.mem) (vs.flatMap AV.rows)=frzU lm (vs.flatMap AV.rows):=frzU_congr fun k hk=>hm k hk
 rw [hcongr] at hf'
 have hvf:=(call_run ho hf hvs hok hfn.1 _ Γ a w hf' hl).2
 have hda:=all2_dat (S:=fun b=>Gd c (frzU lm (vs.flatMap AV.rows)++σ.mem) Γ b) hvf hargs (fun v d u hvm hvr hi=>by
  have hi:IsV (fun j=>(look (frzU lm (vs.flatMap AV.rows)) j).or (lm j)) d v:=hi
  obtain ⟨fp,h1,_,h3⟩:=hf'.isVRep hvr (IsV_congr (fun k hk=>by rw [look_app,hm k (hrows v hvm k hk)]) hi)
  refine ⟨fp,h1,h3 fun k hk e t v' o' l hrow=>?_⟩
  rw [<-hcongr] at hrow
  exact (frz_no hrow).1 (hrows v hvm k hk))
 refine (hfn.2 w _ _ (cg_gw hs) hda).mono ?_
 rintro e w' ⟨hb,u,fps,rfl,h1,hg,hne⟩
 have hnone:look (frzU lm (vs.flatMap AV.rows)++σ.mem) nx=none:=by
  rw [app_look2 (frzU_nob (by rw [hnx _ (Nat.le_refl _)]; rfl))]
  by_cases hin:nx ∈ vs.flatMap AV.rows
  ·rw [hm nx hin]; exact hnx _ (Nat.le_refl _)
  ·exact hn (nx,_) List.mem_cons_self hin
 have hg':GrowF t.rp c.base w' te u l fps:=by
  obtain ⟨xs,⟨g1,g2⟩,g3,g4⟩:=hg
  refine ⟨xs,⟨g1,?_⟩,g3,g4⟩
  rcases g2 with g2|⟨g,cap,cur,q1,q2,q3⟩
  ·exact .inl g2
  ·exact .inr ⟨g,cap,cur,q1,Nat.le_trans hs.hb q2,q3⟩
 have s1:=hf'.newRow hnone hb hg' (fun b hbo=>(hg.own hbo).1) (fun b hbf=>by
  obtain ⟨q1,q2⟩:=hne b hbf
  by_cases hlt:w.heap.size<=b
  ·exact .inl ⟨hlt,q2⟩
  ·exact .inr ⟨by omega,q1.resolve_right hlt⟩) (o:=false) (fun h=>by cases h)
 refine hK (Γ.setR nx u fps.flatten) _ _ ?_
 have:=s1.put (d:=o.dst) (v:=.row nx 0) (u:=u) ⟨h1,_,look_self ..,Nat.le_refl _,fun _=>by rw [Asg.setR_hd]⟩ (fun x hx=>hdd x hx)
 unfold St.app
 cases hdst:o.dst<;>simp only [hdst,St.put] at this ⊢<;>exact this
theorem aCall_ok (hnx:∀ k,nx<=k->lm k=none) {fop:Operand} {xs:Array Operand} {tys:Array TypeId} (ho:o.op=.call { callee:=.value fop,args:=xs,argTypes:=tys }) (h:aCall P lt lm nx K fop xs):∃ e,K e/\SOK P c lt lm nx o e:=by
 unfold aCall at h
 split at h
 ·rename_i f fi ca vs hf hvs
  obtain ⟨rfl,rfl,hok,h⟩:=h
  rcases h with h|h|h|h|h|h|h|h|h|h|h|h|h|h|h|h|h
  ·exact aCallP_ok hnx ho hf hvs hok h
  ·exact aCallX_ok hnx ho hf hvs hok h
  ·exact aMark_ok ho hf hvs hok h
  ·exact aCallS_ok ho hf hvs hok h
  ·exact aCallT_ok hnx ho hf hvs hok h
  ·exact aCallG_ok hnx ho hf hvs hok h
  ·exact aCallR_ok ho hf hvs hok h
  ·exact aCallC_ok hnx ho hf hvs hok h
  ·exact aCallN_ok hnx ho hf hvs hok h
  ·exact aCallQ_ok ho hf hvs hok h
  ·exact aCallH_ok ho hf hvs hok h
  ·exact aCallM_ok ho hf hvs hok h
  ·exact aCallE_ok ho hf hvs hok h
  ·exact aCallNP_ok hnx ho hf hvs hok h
  ·exact aCallTO_ok hnx ho hf hvs hok h
  ·have hfr:∀ vs w,(callFunc f vs).run P w=.ok (.enter f vs) w:=by obtain ⟨_,_,_,_,hfn,_⟩:=h; exact hfn.1
   refine aCallA_ok (fun σ Γ a w hs hl=>?_) h
   obtain ⟨hr,hv⟩:=call_run ho hf hvs hok hfr σ Γ a w hs hl
   exact ⟨xs.toList.map a.eval,by rw [hr,show xs.map a.eval=(xs.toList.map a.eval).toArray from Array.toList_inj.1 (by rw [Array.toList_map])],hv.right_map a.eval⟩
  ·exact aCallL_ok hnx ho hf hvs hok h
 ·exact h.elim
end
theorem exList {β:Type} {Q:Nat->β->Prop} (n:Nat) (h:∀ i,i < n->∃ y,Q i y):∃ ys:List β,ys.length=n/\∀ i y,ys[i]? = some y->Q i y:=by
 induction n with
 | zero=>exact ⟨[],rfl,fun i y h=>by simp at h⟩
 | succ n ih =>
  obtain ⟨ys,hl,hy⟩:=ih fun i hi=>h i (by omega)
  obtain ⟨y,hq⟩:=h n (by omega)
  refine ⟨ys++[y],by simp [hl],fun i z hz=>?_⟩
  rcases Nat.lt_or_ge i ys.length with hi|hi
  ·rw [List.getElem?_append_left hi] at hz; exact hy i z hz
  ·have hin:i=n:=by have:=(List.getElem?_eq_some_iff.1 hz).1; simp at this; omega
   subst hin
   rw [<-hl] at hz ⊢
   simp at hz
   subst hz
   exact hl ▸ hq
theorem flat_get {α:Type} {css:List (List α)} {n:Nat} (h:∀ cs ∈ css,cs.length=n):css.flatten.length=css.length * n/\∀ i cs j d,css[i]? = some cs->cs[j]? = some d->css.flatten[i * n+j]? = some d:=by
 induction css with
 | nil=>exact ⟨by simp,fun i cs j d h=>by simp at h⟩
 | cons c0 css ih =>
  obtain ⟨h1,h2⟩:=ih fun cs hc=>h cs (List.mem_cons_of_mem _ hc)
  have h0:=h c0 List.mem_cons_self
  refine ⟨by simp only [List.flatten_cons,List.length_append,h1,h0,List.length_cons,Nat.succ_mul]; omega,fun i cs j d hi hj=>?_⟩
  cases i with
  | zero =>
   simp at hi; subst hi
   have:=(List.getElem?_eq_some_iff.1 hj).1
   simp only [List.flatten_cons,Nat.zero_mul,Nat.zero_add]
   rw [List.getElem?_append_left (by omega)]; exact hj
  | succ i =>
   simp at hi
   have:=h2 i cs j d hi hj
   simp only [List.flatten_cons]
   rw [List.getElem?_append_right (by rw [Nat.succ_mul]; omega),h0,Nat.succ_mul]
   rw [show i * n+n+j - n=i * n+j by omega]; exact this
theorem flat_back {α:Type} {css:List (List α)} {n:Nat} (hn:0 < n) (h:∀ cs ∈ css,cs.length=n) {q:Nat} {d:α} (hq:css.flatten[q]? = some d):∃ cs,css[q / n]? = some cs/\cs[q % n]? = some d:=by
 obtain ⟨h1,h2⟩:=flat_get h
 have hlt:=(List.getElem?_eq_some_iff.1 hq).1
 rw [h1] at hlt
 have hi:q / n < css.length:=by rw [Nat.div_lt_iff_lt_mul hn]; exact hlt
 have hc:=h css[q / n] (List.getElem_mem hi)
 have hm:=Nat.mod_lt q hn
 have h3:=h2 (q / n) css[q / n] (q % n) (css[q / n][q % n]'(by omega)) (List.getElem?_eq_getElem hi) (List.getElem?_eq_getElem (by omega))
 rw [show q / n * n+q % n=q by rw [Nat.mul_comm]; exact Nat.div_add_mod q n,hq] at h3
 injection h3 with h3
 exact ⟨_,List.getElem?_eq_getElem hi,by rw [List.getElem?_eq_getElem (by omega),h3]⟩
def RowsOf {α:Type} (A:Rp α) (w:World) (l:List α) (css:List (List Value)) (fps:List (List Nat)):Prop :=
 css.length=l.length/\fps.length=l.length/\∀ (i:Nat) (x:α),l[i]? = some x->∃ cs f,css[i]? = some cs/\fps[i]? = some f/\A.rep w cs x f
theorem RowsOf.len {α:Type} {A:Rp α} {w:World} {l:List α} {css:List (List Value)} {fps:List (List Nat)} (h:RowsOf A w l css fps):∀ cs ∈ css,cs.length=A.size:=by
 intro cs hc
 obtain ⟨i,hi,rfl⟩:=List.getElem_of_mem hc
 obtain ⟨cs',f,h1,_,h3⟩:=h.2.2 i (l[i]'(by have:=h.1; omega)) (List.getElem?_eq_getElem (by have:=h.1; omega))
 rw [List.getElem?_eq_getElem hi] at h1
 injection h1 with h1
 rw [h1]; exact A.len h3
theorem RowsOf.one {α:Type} {A:Rp α} {w:World} {l:List α} {css:List (List Value)} {fps:List (List Nat)} (h:RowsOf A w l css fps):∀ u ∈ css.flatten,u.oneCell'=true:=by
 intro u hu
 obtain ⟨cs,hc,hu⟩:=List.mem_flatten.1 hu
 obtain ⟨i,hi,rfl⟩:=List.getElem_of_mem hc
 obtain ⟨cs',f,h1,_,h3⟩:=h.2.2 i (l[i]'(by have:=h.1; omega)) (List.getElem?_eq_getElem (by have:=h.1; omega))
 rw [List.getElem?_eq_getElem hi] at h1
 injection h1 with h1
 rw [h1] at hu
 exact A.one h3 u hu
theorem slice_rows' {α:Type} {A:Rp α} {p:0 < A.size} {w:World} {u:Value} {l:List α} {fp:List Nat} (h:(Rp.slice A p).rep w [u] l fp) :
  ∃ ad cc css fps,u=.slice ad l.length cc/\RowsOf A w l css fps/\(∀ b ∈ fps.flatten,b ∈ fp)/\(ad=none->l=[])/\(∀ a,ad=some a->∀ j d,css.flatten[j]? = some d->w.cell? (a.add j)=some d)/\(fps.flatten=[]\/∃ b,fp=b :: fps.flatten):=by
 obtain ⟨ad,cc,h1,h2,h3,h4⟩:=h
 injection h1 with h1
 rcases h4 with ⟨rfl,rfl⟩|⟨b,off,fps,hl,ha,hfp,hlen,he⟩
 ·exact ⟨ad,cc,[],[],h1,⟨rfl,rfl,fun i x hx=>by simp at hx⟩,(fun b hb=>by simp at hb),fun _=>rfl,(fun a _ j d hd=>by simp at hd),.inl rfl⟩
 ·have hex:∀ i,i < l.length->∃ cs:List Value,∀ x,l[i]? = some x->∃ f,fps[i]? = some f/\A.rep w cs x f/\∀ j v,cs[j]? = some v->w.cell? ⟨b,off+i * A.size+j,none⟩=some v:=by
   intro i hi
   obtain ⟨f,cs,h1,h2,h3⟩:=he i l[i] (List.getElem?_eq_getElem hi)
   refine ⟨cs,fun x hx=>?_⟩
   rw [List.getElem?_eq_getElem hi] at hx
   injection hx with hx
   subst hx
   exact ⟨f,h1,h2,h3⟩
  obtain ⟨css,hcl,hcs⟩:=exList l.length hex
  have hrows:RowsOf A w l css fps:=by
   refine ⟨hcl,hlen,fun i x hx=>?_⟩
   have hi:=(List.getElem?_eq_some_iff.1 hx).1
   have hc:css[i]? = some (css[i]'(by omega)):=List.getElem?_eq_getElem (by omega)
   obtain ⟨f,h1,h2,_⟩:=hcs i _ hc x hx
   exact ⟨_,f,hc,h1,h2⟩
  refine ⟨ad,cc,css,fps,h1,hrows,(fun b' hb'=>by rw [hfp]; exact List.mem_cons_of_mem _ hb'),(fun hn=>by rw [ha] at hn; cases hn),fun a haa j d hd=>?_,.inr ⟨_,hfp⟩⟩
  rw [ha] at haa
  injection haa with haa
  subst haa
  obtain ⟨cs,hc,hd⟩:=flat_back p hrows.len hd
  have hi:j / A.size < l.length:=by have:=(List.getElem?_eq_some_iff.1 hc).1; omega
  obtain ⟨f,_,_,h3⟩:=hcs _ cs hc _ (List.getElem?_eq_getElem hi)
  have:=h3 _ d hd
  rw [addr_add]
  rw [Nat.add_assoc,show j / A.size * A.size+j % A.size=j by rw [Nat.mul_comm]; exact Nat.div_add_mod j A.size] at this
  exact this
theorem slice_rows {α:Type} {A:Rp α} {p:0 < A.size} {w:World} {u:Value} {l:List α} {fp:List Nat} (h:(Rp.slice A p).rep w [u] l fp) :
  ∃ ad cc css fps,u=.slice ad l.length cc/\RowsOf A w l css fps/\(∀ b ∈ fps.flatten,b ∈ fp)/\(ad=none->l=[])/\∀ a,ad=some a->∀ j d,css.flatten[j]? = some d->w.cell? (a.add j)=some d:=by
 obtain ⟨ad,cc,css,fps,h1,h2,h3,h4,h5,_⟩:=slice_rows' h
 exact ⟨ad,cc,css,fps,h1,h2,h3,h4,h5⟩
section
variable {P:Program} {α:Type} {A:Rp α}
theorem run_appendF {base:Nat} {w:World} {v u:Value} {l m:List α} {fps fps2:List (List Nat)} {css:List (List Value)} {ad:Option Addr} {cc:Nat} (t ty e:TypeId) (i:TypeInfo) (z:Value) (ht:P.underlying t=some (.slice e)) (hi:P.info? e=some i) (hz:i.zero=some z)
  (hsize:i.size=A.size) (hzs:z.cells.size=A.size) (hsz:0 < A.size) (h:GrowF A base w e v l fps) (hu:u=.slice ad m.length cc) (hr:RowsOf A w m css fps2) (hn:ad=none->m=[]) (hc:∀ a,ad=some a->∀ j d,css.flatten[j]? = some d->w.cell? (a.add j)=some d)
  (h63:l.length+m.length<=maxLen) (hbytes:(l.length+m.length) * i.bytes<=140737488355328) (hbase:base<=w.heap.size) (hf1:∀ b ∈ fps.flatten,v.ownBlock ≠ some b) (hf2:∀ b ∈ fps2.flatten,v.ownBlock ≠ some b) :
  ∃ v' w',(Builtin.append_ #[t,t] ty #[v,u]).run P w=.ok v' w'/\GrowF A base w' e v' (l++m) (fps++fps2)/\w.grownBy w' v.ownBlock/\(v'.ownBlock=v.ownBlock\/v'.ownBlock=some w.heap.size):=by
 subst hu
 obtain ⟨xs,ho,hfl,he⟩:=h
 have hlt1:∀ b ∈ fps.flatten,b < w.heap.size:=GrowF.lt ⟨xs,ho,hfl,he⟩
 cases ad with
 | none =>
  have:=hn rfl
  subst this
  have hf0:fps2=[]:=List.eq_nil_of_length_eq_zero hr.2.1
  subst hf0
  refine ⟨v,w,?_,by rw [List.append_nil,List.append_nil]; exact ⟨xs,ho,hfl,he⟩,World.grownBy.refl w _,.inl rfl⟩
  rcases ho.2 with ⟨rfl,h0⟩|⟨g,cap,cur,rfl,_,_,hnc,_⟩
  ·simp [Builtin.append_,run_underlying ht,sizeOf,typeInfo,hi,Builtin.lenOf,Builtin.firstCells]
  ·simp [Builtin.append_,run_underlying ht,sizeOf,typeInfo,hi,Builtin.lenOf,Builtin.firstCells,hnc,storeCells]
 | some a =>
  have hlens:=hr.len
  obtain ⟨g1,g2⟩:=flat_get hlens
  obtain ⟨v',w',hrun,h2,h3,_,h5⟩:=run_append_own_at (P:=P) w base t ty e i z A.size i.bytes ht hi hz hsize rfl hzs hsz v l.length xs ho a m.length cc css.flatten (by rw [g1,hr.1])
   (fun j d hd=>hc a rfl j d hd) hr.one h63 hbytes hbase
  have hkeep:∀ b,b < w.heap.size->v.ownBlock ≠ some b->w'.heap[b]? = w.heap[b]?:=fun b hb hne=>h3.block b hb fun e=>hne e.symm
  refine ⟨v',w',hrun,⟨xs++css.flatten,by rw [List.length_append]; exact h2,by simp [hfl,hr.2.1],fun j x hx=>?_⟩,h3,h5⟩
  have hxl:xs.length=l.length * A.size:=ho.1
  rcases Nat.lt_or_ge j l.length with hj|hj
  ·rw [List.getElem?_append_left hj] at hx
   obtain ⟨f,cs,hf,hrr,hcs⟩:=he j x hx
   refine ⟨f,cs,by rw [List.getElem?_append_left (by omega)]; exact hf,A.frame hrr fun b hb=>hkeep b (A.lt hrr b hb) (hf1 b (List.mem_flatten.2 ⟨f,List.mem_of_getElem? hf,hb⟩)),fun q d hd=>?_⟩
   have:=hcs q d hd
   rw [List.getElem?_append_left (List.getElem?_eq_some_iff.1 this).1]; exact this
  ·rw [List.getElem?_append_right hj] at hx
   obtain ⟨cs,f,hc1,hf,hrr⟩:=hr.2.2 _ x hx
   refine ⟨f,cs,by rw [List.getElem?_append_right (by omega),hfl]; exact hf,A.frame hrr fun b hb=>hkeep b (A.lt hrr b hb) (hf2 b (List.mem_flatten.2 ⟨f,List.mem_of_getElem? hf,hb⟩)),fun q d hd=>?_⟩
   have:=g2 _ cs q d hc1 hd
   have hge:l.length * A.size<=j * A.size:=Nat.mul_le_mul_right _ hj
   rw [List.getElem?_append_right (by omega),hxl]
   rw [Nat.sub_mul] at this
   rw [show j * A.size+q - l.length * A.size=j * A.size - l.length * A.size+q by omega]
   exact this
theorem growF_nil (base:Nat) (w:World) (e:TypeId):GrowF A base w e (.slice none 0 0) [] [] :=
 ⟨[],World.ownsRow_nil w base e A.size,rfl,fun i x h=>by simp at h⟩
theorem growF_new {base:Nat} {w:World} {e:TypeId} {l:List α} {css:List (List Value)} {fps:List (List Nat)} (hb:base<=w.heap.size) (hr:RowsOf A w l css fps) (hl:l.length<=maxLen) (rest:List Value) (cap:Nat) (hcap:l.length<=cap) (hcm:cap<=maxLen)
  (hrest:l.length * A.size+rest.length=cap * A.size):GrowF A base (w.alloc (.cells (css.flatten++rest).toArray e)) e (.slice (some ⟨w.heap.size,0,none⟩) l.length cap) l fps:=by
 obtain ⟨g1,g2⟩:=flat_get hr.len
 have hlen:css.flatten.length=l.length * A.size:=by rw [g1,hr.1]
 refine ⟨css.flatten,⟨hlen,.inr ⟨w.heap.size,cap,_,rfl,hb,heap_at,hcap,hcm,by simp [hlen]; omega,?_⟩⟩,hr.2.1,fun i x hx=>?_⟩
 ·rw [<-hlen,List.take_left']; rfl
 ·obtain ⟨cs,f,h1,h2,h3⟩:=hr.2.2 i x hx
  exact ⟨f,cs,h2,A.frame h3 fun b hb=>Below.heap_alloc w _ b (A.lt h3 b hb),fun j d hd=>g2 i cs j d h1 hd⟩
end
def OwnL (lm:Nat->Option Blk):AV->Bool
 | .sc _=>true
 | .row k ver =>
  match lm k with
  | some (.row _ _ v o _)=>v == ver && o
  | some (.odat _ _)=>ver == 0
  | _=>false
 | _=>false
def OwnC (σ:St):AV->Bool:=OwnL (look σ.mem)
section
variable {P:Program} {c:Cx} {σ:St} {Γ:Asg} {a:Act} {w:World}
def Holds (σ:St) (Γ:Asg) (k b:Nat):Prop:=∃ B,look σ.mem k=some B/\(B.mut Γ k b\/b ∈ B.ofp Γ k)
theorem holds_inj (hs:Sim c σ Γ a w) {k k' b:Nat} (h:Holds σ Γ k b) (h':Holds σ Γ k' b):k=k':=by
 obtain ⟨B,hk,hb⟩:=h
 obtain ⟨B',hk',hb'⟩:=h'
 have hgd:∀ {k:Nat} {B:Blk},look σ.mem k=some B->b ∈ B.ofp Γ k->¬ Mut σ.mem Γ b:=by
  intro k B hk hb
  have hB:=hs.mm k B hk
  cases B with
  | row e t v o l =>
   obtain ⟨fps,_,_,hg,_⟩:=hB
   cases o with
   | false=>simp [Blk.ofp] at hb
   | true=>exact (hg b hb).2
  | odat t l=>exact (hB.2.1 b hb).2
  | _=>simp [Blk.ofp] at hb
 rcases hb with hb|hb<;>rcases hb' with hb'|hb'
 ·exact hs.inj _ _ _ _ b hk hk' hb hb'
 ·exact absurd ⟨k,B,hk,hb⟩ (hgd hk' hb')
 ·exact absurd ⟨k',B',hk',hb'⟩ (hgd hk hb)
 ·by_cases hkk:k=k'
  ·exact hkk
  ·exact absurd hb' (hs.disj _ _ _ _ b hk hk' hkk hb)
theorem Sim.ownRep (hs:Sim c σ Γ a w):∀ {t:Ty} {x:t.den} {cs:List AV} {us:List Value},All2 (CRep c σ.mem Γ w) cs us->Is (look σ.mem) t x cs->cs.all (OwnC σ)=true->(cellRows cs).Nodup →
  ∃ fp,t.rp.rep w us x fp/\OwnR c w fp/\∀ b ∈ fp,∃ k ∈ cellRows cs,Holds σ Γ k b
 | .int,n,_,[u],hc,rfl,_,_=>by obtain ⟨⟨rfl,_,hI⟩,_⟩:=hc; exact ⟨[],⟨rfl,rfl,hI⟩,ownR_nil _ _,fun b hb=>by cases hb⟩
 | .bool,n,_,[u],hc,rfl,_,_=>by obtain ⟨⟨rfl,_⟩,_⟩:=hc; exact ⟨[],⟨rfl,rfl⟩,ownR_nil _ _,fun b hb=>by cases hb⟩
 | .str,n,_,[u],hc,rfl,_,_=>by obtain ⟨⟨rfl,_,hI⟩,_⟩:=hc; exact ⟨[],⟨rfl,rfl,hI⟩,ownR_nil _ _,fun b hb=>by cases hb⟩
 | .u8,n,_,[u],hc,rfl,_,_=>by obtain ⟨⟨rfl,_,hI⟩,_⟩:=hc; exact ⟨[],⟨rfl,rfl,hI⟩,ownR_nil _ _,fun b hb=>by cases hb⟩
 | .cst _,n,_,[u],hc,rfl,_,_=>by obtain ⟨⟨rfl,_⟩,_⟩:=hc; exact ⟨[],⟨rfl,rfl⟩,ownR_nil _ _,fun b hb=>by cases hb⟩
 | .ext e s,x,cs,[u],hc,hi,ho,_=>by
  rcases hi with rfl|⟨rfl,rfl⟩
  ·cases x<;>cases e<;>simp [OwnC,OwnL,exV] at ho
  ·obtain ⟨⟨rfl,_⟩,_⟩:=hc
   exact ⟨[],⟨rfl,rfl⟩,ownR_nil _ _,fun b hb=>by cases hb⟩
 | .slice s,l,cs,[u],hc,hi,ho,hn=>by
  obtain ⟨v,e,hs1⟩:=hi
  subst e
  simp only [List.all_cons,List.all_nil,Bool.and_true] at ho
  rcases hs1 with hd|⟨rfl,rfl⟩
  ·cases v with
   | row k ver =>
    obtain ⟨⟨_,B,hB,hh⟩,_⟩:=hc
    simp only [AV.data,hB,Option.bind_some] at hd
    simp only [OwnC,OwnL,hB] at ho
    have hm:=hs.mm k B hB
    cases B with
    | row e s' v' o l' =>
     simp only [Bool.and_eq_true,beq_iff_eq] at ho
     obtain ⟨rfl,rfl⟩:=ho
     simp only [Blk.data,if_true] at hd
     injection hd with hd; injection hd with d1 d2
     subst d1
     obtain rfl:=eq_of_heq d2
     obtain ⟨fps,hg,hf,hgd,hon⟩:=hm
     rw [hh.2 rfl]
     obtain ⟨fp,hr,hfp⟩:=growR_rep hg
     refine ⟨fp,hr,?_,fun b hb=>⟨k,by simp [cellRows],_,hB,?_⟩⟩
     ·rcases hfp with rfl|⟨g,hgo,rfl,hbg,hfr⟩
      ·exact ownR_nil _ _
      ·have h1:=hon rfl
       rw [hf] at h1
       refine ⟨List.nodup_cons.2 ⟨fun hm=>(hgd g (hf ▸ hm)).2 ⟨k,_,hB,hgo⟩,h1.1⟩,fun b hb=>?_⟩
       rcases List.mem_cons.1 hb with rfl|hb
       ·exact ⟨hbg,hfr⟩
       ·exact h1.2 b hb
     ·rcases hfp with rfl|⟨g,hgo,rfl,_⟩
      ·cases hb
      ·rcases List.mem_cons.1 hb with rfl|hb
       ·exact .inl hgo
       ·exact .inr (by simp only [Blk.ofp,hf]; exact hb)
    | odat s' l' =>
     simp only [beq_iff_eq] at ho
     subst ho
     simp only [Blk.data,if_true] at hd
     injection hd with hd; injection hd with d1 d2
     subst d1
     obtain rfl:=eq_of_heq d2
     rw [hh rfl]
     exact ⟨_,hm.1,hm.2.2,fun b hb=>⟨k,by simp [cellRows],_,hB,.inr hb⟩⟩
    | _=>cases ho
   | sl _ _=>cases ho
   | fx _ _ _=>cases ho
   | _=>cases hd
  ·obtain ⟨⟨rfl,_⟩,_⟩:=hc
   exact ⟨[],⟨none,0,rfl,Nat.le_refl _,Nat.zero_le _,.inl ⟨rfl,rfl⟩⟩,ownR_nil _ _,fun b hb=>by cases hb⟩
 | .prod s u,x,cs,us,hc,⟨i1,i2⟩,ho,hn=>by
  have hsplit:cellRows cs=cellRows (cs.take s.size)++cellRows (cs.drop s.size):=by
   rw [cellRows,cellRows,cellRows,<-List.flatMap_append,List.take_append_drop]
  rw [hsplit,List.nodup_append] at hn
  rw [List.all_eq_true] at ho
  obtain ⟨f1,r1,o1,g1⟩:=hs.ownRep (hc.take s.size) i1 (List.all_eq_true.2 fun v hv=>ho v (List.mem_of_mem_take hv)) hn.1
  obtain ⟨f2,r2,o2,g2⟩:=hs.ownRep (hc.drop s.size) i2 (List.all_eq_true.2 fun v hv=>ho v (List.mem_of_mem_drop hv)) hn.2.1
  refine ⟨f1++f2,⟨_,_,f1,f2,(List.take_append_drop s.size us).symm,rfl,r1,r2⟩,⟨?_,fun b hb=>(List.mem_append.1 hb).elim (o1.2 b) (o2.2 b)⟩,fun b hb=>?_⟩
  ·rw [List.nodup_append]
   refine ⟨o1.1,o2.1,fun b hb b' hb' e=>?_⟩
   subst e
   obtain ⟨k,hk,h1⟩:=g1 b hb
   obtain ⟨k',hk',h2⟩:=g2 b hb'
   exact hn.2.2 k hk k' hk' (holds_inj hs h1 h2)
  ·rw [hsplit]
   rcases List.mem_append.1 hb with hb|hb
   ·obtain ⟨k,hk,h1⟩:=g1 b hb; exact ⟨k,List.mem_append.2 (.inl hk),h1⟩
   ·obtain ⟨k,hk,h1⟩:=g2 b hb; exact ⟨k,List.mem_append.2 (.inr hk),h1⟩
 | .int,n,_,[],hc,rfl,_,_=>hc.elim
 | .bool,n,_,[],hc,rfl,_,_=>hc.elim
 | .str,n,_,[],hc,rfl,_,_=>hc.elim
 | .u8,n,_,[],hc,rfl,_,_=>hc.elim
 | .cst _,n,_,[],hc,rfl,_,_=>hc.elim
 | .slice s,l,cs,[],hc,hi,_,_=>by obtain ⟨v,e,hs⟩:=hi; subst e; exact hc.elim
 | .ext e s,x,cs,[],hc,hi,_,_=>by rcases hi with rfl|⟨rfl,rfl⟩<;>exact hc.elim
 | .int,n,_,_ :: _ :: _,hc,rfl,_,_=>hc.2.elim
 | .bool,n,_,_ :: _ :: _,hc,rfl,_,_=>hc.2.elim
 | .str,n,_,_ :: _ :: _,hc,rfl,_,_=>hc.2.elim
 | .u8,n,_,_ :: _ :: _,hc,rfl,_,_=>hc.2.elim
 | .cst _,n,_,_ :: _ :: _,hc,rfl,_,_=>hc.2.elim
 | .slice s,l,cs,_ :: _ :: _,hc,hi,_,_=>by obtain ⟨v,e,hs⟩:=hi; subst e; exact hc.2.elim
 | .ext e s,x,cs,_ :: _ :: _,hc,hi,_,_=>by rcases hi with rfl|⟨rfl,rfl⟩<;>exact hc.2.elim
theorem frzU_is {ks:List Nat}:∀ {lm:Nat->Option Blk} {j:Nat} {B:Blk},look (frzU lm ks) j=some B->∃ t v l,B=.froz t v l:=by
 induction ks with
 | nil=>intro lm j B h; cases h
 | cons k ks ih =>
  intro lm j B h
  simp only [frzU] at h
  split at h
  ·rename_i B0 hB0
   rw [look_app,Option.or_eq_some_iff] at h
   rcases h with h|⟨_,h⟩
   ·exact ih h
   ·simp only [look] at h
    split at h
    ·injection h with h
     subst h
     obtain ⟨B1,_,hf⟩:=Option.bind_eq_some_iff.1 hB0
     cases B1<;>first|(injection hf with hf; exact ⟨_,_,_,hf.symm⟩)|cases hf
    ·cases h
  ·exact ih h
theorem frzU_has {ks:List Nat}:∀ {lm:Nat->Option Blk} {k:Nat} {B0 B:Blk},k ∈ ks->lm k=some B0->B0.fz=some B->∃ B',look (frzU lm ks) k=some B':=by
 induction ks with
 | nil=>intro lm k B0 B h; cases h
 | cons k' ks ih =>
  intro lm k B0 B hk hl hz
  simp only [frzU]
  by_cases hkk:k=k'
  ·subst hkk
   have e:(lm k).bind Blk.fz=some B:=by rw [hl]; exact hz
   rw [e]
   simp only [look_app,look_self]
   cases look (frzU (fun j=>if j=k then some B else lm j) ks) k with
   | none=>exact ⟨_,rfl⟩
   | some B'=>exact ⟨B',rfl⟩
  ·have hk':k ∈ ks:=(List.mem_cons.1 hk).resolve_left hkk
   split
   ·rename_i B1 hB1
    obtain ⟨B',hB'⟩:=ih (lm:=fun j=>if j=k' then some B1 else lm j) hk' (by rw [if_neg hkk]; exact hl) hz
    exact ⟨B',by rw [look_app,hB']; rfl⟩
   ·exact ih hk' hl hz
def Live (M:Mm) (k:Nat):Prop:=∃ B0 B,look M k=some B0/\B0.fz=some B
theorem frz_free (hs:Sim c σ Γ a w) {ks:List Nat} {k b:Nat} (hk:k ∈ ks) (hlv:Live σ.mem k) (hh:Holds σ Γ k b) {j:Nat} {B:Blk} (hj:look (frzU (look σ.mem) ks++σ.mem) j=some B):¬ B.mut Γ j b/\b ∉ B.ofp Γ j:=by
 have key:¬ (B.mut Γ j b\/b ∈ B.ofp Γ j):=by
  intro hb
  rw [look_app,Option.or_eq_some_iff] at hj
  rcases hj with hj|⟨hn,hj⟩
  ·obtain ⟨t,v,l,rfl⟩:=frzU_is hj
   rcases hb with hb|hb
   ·exact hb.elim
   ·simp [Blk.ofp] at hb
  ·have e:=holds_inj hs ⟨B,hj,hb⟩ hh
   subst e
   obtain ⟨B0,B1,h1,h2⟩:=hlv
   obtain ⟨B',hB'⟩:=frzU_has (lm:=look σ.mem) hk h1 h2
   rw [hn] at hB'
   cases hB'
 exact ⟨fun h=>key (.inl h),fun h=>key (.inr h)⟩
theorem ownC_live {k ver:Nat} (h:OwnC σ (.row k ver)=true):Live σ.mem k:=by
 simp only [OwnC,OwnL] at h
 split at h
 ·rename_i hk; exact ⟨_,_,hk,rfl⟩
 ·rename_i hk; exact ⟨_,_,hk,rfl⟩
 ·cases h
def ownV (lm:Nat->Option Blk) (vs:List AV):Bool:=vs.all (fun v=>(cellsOf v).all (OwnL lm)) && decide (vs.flatMap (fun v=>cellRows (cellsOf v))).Nodup
theorem ownL_congr {lm lm':Nat->Option Blk} {v:AV} (h:∀ k ver,v=.row k ver->lm' k=lm k):OwnL lm' v=OwnL lm v:=by
 cases v with
 | row k ver=>simp only [OwnL,h k ver rfl]
 | _=>rfl
theorem rows_cells {v:AV} (hok:v.ok=true):cellRows (cellsOf v)=v.rows:=by
 cases v with
 | junk=>cases hok
 | tup _=>cases hok
 | agg cs=>rfl
 | _=>simp [cellsOf,cellRows,AV.rows]
theorem ownV_congr {lm lm':Nat->Option Blk} {vs:List AV} (hok:vs.all AV.ok=true) (h:∀ k ∈ vs.flatMap AV.rows,lm' k=lm k):ownV lm' vs=ownV lm vs:=by
 unfold ownV
 congr 1
 rw [Bool.eq_iff_iff,List.all_eq_true,List.all_eq_true]
 have key:∀ v ∈ vs,∀ cv ∈ cellsOf v,OwnL lm' cv=OwnL lm cv:=fun v hv cv hcv=>ownL_congr fun k ver e=>h k (List.mem_flatMap.2 ⟨v,hv,by
  rw [<-rows_cells (List.all_eq_true.1 hok v hv)]; exact mem_cellRows (e ▸ hcv)⟩)
 constructor
 ·intro hh v hv
  rw [List.all_eq_true]; intro cv hcv
  rw [<-key v hv cv hcv]; exact List.all_eq_true.1 (hh v hv) cv hcv
 ·intro hh v hv
  rw [List.all_eq_true]; intro cv hcv
  rw [key v hv cv hcv]; exact List.all_eq_true.1 (hh v hv) cv hcv
theorem frzU_data {ks:List Nat}:∀ {lm:Nat->Option Blk} {j:Nat} {B:Blk},look (frzU lm ks) j=some B->∃ B0,lm j=some B0/\((∃ t l,B0=.mine t l)\/∀ ver,B.data ver=B0.data ver):=by
 induction ks with
 | nil=>intro lm j B h; cases h
 | cons k ks ih =>
  intro lm j B h
  simp only [frzU] at h
  split at h
  ·rename_i B1 hB1
   obtain ⟨B0,hl,hf⟩:=Option.bind_eq_some_iff.1 hB1
   have hd:(∃ t l,B0=.mine t l)\/∀ ver,B1.data ver=B0.data ver:=by
    cases B0 with
    | row e t v o l=>injection hf with hf; subst hf; exact .inr fun ver=>rfl
    | odat t l=>injection hf with hf; subst hf; exact .inr fun ver=>by simp [Blk.data,eq_comm]
    | mine t l=>exact .inl ⟨t,l,rfl⟩
    | _=>cases hf
   have hnm:∀ t l,B1 ≠ .mine t l:=by
    intro t l e
    cases B0<;>first|(injection hf with hf; rw [<-hf] at e; cases e)|cases hf
   rw [look_app,Option.or_eq_some_iff] at h
   rcases h with h|⟨_,h⟩
   ·obtain ⟨B2,h1,h2⟩:=ih h
    by_cases hj:j=k
    ·subst hj
     rw [if_pos rfl] at h1
     injection h1 with h1
     subst h1
     refine ⟨B0,hl,hd.imp id fun hd ver=>?_⟩
     rcases h2 with ⟨t,l,e⟩|h2
     ·exact absurd e (hnm t l)
     ·exact (h2 ver).trans (hd ver)
    ·rw [if_neg hj] at h1; exact ⟨B2,h1,h2⟩
   ·simp only [look] at h
    split at h
    ·rename_i hj
     injection h with h
     subst h hj
     exact ⟨B0,hl,hd⟩
    ·cases h
  ·exact ih h
theorem data_lmF (lm:Nat->Option Blk) (ks:List Nat) (ap:Bool) (v:AV) (hn:∀ k ver t l,v=.row k ver->lm k ≠ some (.mine t l)):v.data (lmF lm ks ap)=v.data lm:=by
 cases v with
 | row k ver =>
  unfold lmF
  cases ap with
  | true=>rfl
  | false =>
   simp only [Bool.false_eq_true,if_false,AV.data]
   cases hk:look (frzU lm ks) k with
   | none=>rfl
   | some B =>
    obtain ⟨B0,h1,h2⟩:=frzU_data hk
    rcases h2 with ⟨t,l,rfl⟩|h2
    ·exact absurd h1 (hn k ver t l rfl)
    ·simp only [Option.some_or,h1,Option.bind_some,h2]
 | _=>rfl
theorem own_nm {lm:Nat->Option Blk} {v:AV} (h:OwnL lm v=true):∀ k ver t l,v=.row k ver->lm k ≠ some (.mine t l):=by
 rintro k ver t l rfl e
 simp only [OwnL,e] at h
 cases h
theorem Is_data {lm lm':Nat->Option Blk}:∀ {t:Ty} {x:t.den} {cs:List AV},(∀ v ∈ cs,v.data lm'=v.data lm)->Is lm t x cs->Is lm' t x cs
 | .int,_,_,_,h=>h
 | .bool,_,_,_,h=>h
 | .str,_,_,_,h=>h
 | .u8,_,_,_,h=>h
 | .cst _,_,_,_,h=>h
 | .ext _ _,_,_,_,h=>h
 | .slice a,l,cs,h,⟨v,e,hv⟩=>⟨v,e,hv.imp (fun hv=>(h v (by rw [e]; exact List.mem_cons_self)).trans hv) id⟩
 | .prod a b,x,cs,h,⟨h1,h2⟩=>⟨Is_data (fun v hv=>h v (List.mem_of_mem_take hv)) h1,Is_data (fun v hv=>h v (List.mem_of_mem_drop hv)) h2⟩
theorem IsV_data {lm lm':Nat->Option Blk} {d:Dat} {v:AV} (h:∀ u ∈ cellsOf v,u.data lm'=u.data lm) (hi:IsV lm d v):IsV lm' d v:=by
 cases v<;>exact ⟨hi.1,Is_data h hi.2⟩
theorem rowsOf_cons {t:Ty} {x:t.den} {l:List t.den} {cs:List Value} {css:List (List Value)} {f:List Nat} {fps:List (List Nat)} (h:t.rp.rep w cs x f) (h2:RowsOf t.rp w l css fps):RowsOf t.rp w (x :: l) (cs :: css) (f :: fps):=by
 obtain ⟨r1,r2,r3⟩:=h2
 refine ⟨by simpa using r1,by simpa using r2,fun i y hy=>?_⟩
 cases i with
 | zero=>simp at hy; subst hy; exact ⟨cs,f,rfl,rfl,h⟩
 | succ i=>simpa using r3 i y (by simpa using hy)
theorem ownV_cells (hs:Sim c σ Γ a w) {v:AV} {us:List Value} {t:Ty} {x:t.den} (hc:All2 (CRep c σ.mem Γ w) (cellsOf v) us) (hi2:Is (look σ.mem) t x (cellsOf v)) (ho:(cellsOf v).all (OwnL (look σ.mem))=true) (hn:(cellRows (cellsOf v)).Nodup) :
  ∃ fp,t.rp.rep w us x fp/\OwnR c w fp/\∀ b ∈ fp,∃ k ∈ cellRows (cellsOf v),Holds σ Γ k b/\Live σ.mem k:=by
 obtain ⟨fp,h1,h2,h3⟩:=hs.ownRep hc hi2 ho hn
 refine ⟨fp,h1,h2,fun b hb=>?_⟩
 obtain ⟨k,hk,hh⟩:=h3 b hb
 obtain ⟨cv,hcv,hkv⟩:=List.mem_flatMap.1 hk
 have hcv':∃ ver,cv=.row k ver:=by
  cases cv with
  | row k' ver=>simp at hkv; subst hkv; exact ⟨ver,rfl⟩
  | _=>simp at hkv
 obtain ⟨ver,rfl⟩:=hcv'
 exact ⟨k,hk,hh,ownC_live (List.all_eq_true.1 ho _ hcv)⟩
theorem ownV_one (hs:Sim c σ Γ a w) {v:AV} {u:Value} {t:Ty} {x:t.den} (hv:ARep c σ.mem Γ w v u) (hok:v.ok=true) (hi:IsV (look σ.mem) ⟨t,x⟩ v) (ho:(cellsOf v).all (OwnL (look σ.mem))=true) (hn:(cellRows (cellsOf v)).Nodup) :
  ∃ fp,t.rp.rep w u.cells.toList x fp/\OwnR c w fp/\∀ b ∈ fp,∃ k ∈ cellRows (cellsOf v),Holds σ Γ k b/\Live σ.mem k:=by
 have hc:=(arep_vrep hv).cells hok
 have hi2:Is (look σ.mem) t x (cellsOf v):=by
  cases v with
  | junk=>cases hok
  | tup _=>cases hok
  | _=>exact hi.2
 exact ownV_cells hs hc hi2 ho hn
theorem take_list (hs:Sim c σ Γ a w) {t:Ty}:∀ {vs:List AV} {us:List Value} {l:List t.den},All2 (ARep c σ.mem Γ w) vs us->vs.all AV.ok=true->All2 (fun v x=>IsV (look σ.mem) ⟨t,x⟩ v) vs l->vs.all (fun v=>(cellsOf v).all (OwnL (look σ.mem)))=true->(vs.flatMap (fun v=>cellRows (cellsOf v))).Nodup →
  ∃ fps,RowsOf t.rp w l (us.map fun u=>u.cells.toList) fps/\OwnR c w fps.flatten/\∀ b ∈ fps.flatten,∃ k ∈ vs.flatMap (fun v=>cellRows (cellsOf v)),Holds σ Γ k b/\Live σ.mem k
 | [],[],[],_,_,_,_,_=>⟨[],⟨rfl,rfl,fun i x h=>by simp at h⟩,ownR_nil _ _,fun b hb=>by simp at hb⟩
 | v :: vs,u :: us,x :: l,⟨h1,h2⟩,hok,⟨h3,h4⟩,ho,hn=>by
  rw [List.all_cons,Bool.and_eq_true] at ho hok
  rw [List.flatMap_cons,List.nodup_append] at hn
  obtain ⟨fps,r1,r2,r3⟩:=take_list hs h2 hok.2 h4 ho.2 hn.2.1
  obtain ⟨fp,g1,g2,g3⟩:=ownV_one hs h1 hok.1 h3 ho.1 hn.1
  refine ⟨fp :: fps,rowsOf_cons g1 r1,⟨?_,fun b hb=>?_⟩,fun b hb=>?_⟩
  ·rw [List.flatten_cons,List.nodup_append]
   refine ⟨g2.1,r2.1,fun b hb b' hb' e=>?_⟩
   subst e
   obtain ⟨k,hk,hh,_⟩:=g3 b hb
   obtain ⟨k',hk',hh',_⟩:=r3 b hb'
   exact hn.2.2 k hk k' hk' (holds_inj hs hh hh')
  ·rw [List.flatten_cons,List.mem_append] at hb
   exact hb.elim (g2.2 b) (r2.2 b)
  ·rw [List.flatten_cons,List.mem_append] at hb
   rw [List.flatMap_cons]
   rcases hb with hb|hb
   ·obtain ⟨k,hk,hh⟩:=g3 b hb; exact ⟨k,List.mem_append.2 (.inl hk),hh⟩
   ·obtain ⟨k,hk,hh⟩:=r3 b hb; exact ⟨k,List.mem_append.2 (.inr hk),hh⟩
 | [],_ :: _,_,h,_,_,_,_=>h.elim
 | _ :: _,[],_,h,_,_,_,_=>h.elim
 | [],[],_ :: _,_,_,h,_,_=>h.elim
 | _ :: _,_ :: _,[],_,_,h,_,_=>h.elim
end
theorem fold_set (off:Nat):∀ (us:List Value) (k:Nat) (C:Array Value),off+k+us.length<=C.size →
  ∀ R,(us.zipIdx k).foldl (fun cs (x:Value × Nat)=>cs.setIfInBounds (off+x.2) x.1) C=R->R.size=C.size/\(∀ j v,us[j]? = some v->R[off+k+j]? = some v)/\∀ i,i < off+k\/off+k+us.length<=i->R[i]? = C[i]?
 | [],k,C,h,R,hR=>by
  subst hR
  exact ⟨rfl,fun j v hj=>by simp at hj,fun i _=>rfl⟩
 | u :: us,k,C,h,R,hR=>by
  simp only [List.zipIdx_cons,List.foldl_cons] at hR
  simp only [List.length_cons] at h
  obtain ⟨h1,h2,h3⟩:=fold_set off us (k+1) (C.setIfInBounds (off+k) u) (by simp; omega) R hR
  refine ⟨by simpa using h1,fun j v hj=>?_,fun i hi=>?_⟩
  ·cases j with
   | zero =>
    simp at hj; subst hj
    rw [h3 _ (.inl (by omega))]
    simp only [Nat.add_zero]
    rw [Array.getElem?_setIfInBounds_self_of_lt (by omega)]
   | succ j =>
    have:=h2 j v (by simpa using hj)
    rw [show off+k+(j+1)=off+(k+1)+j by omega]; exact this
  ·simp only [List.length_cons] at hi
   rw [h3 i (by omega),Array.getElem?_setIfInBounds_ne (by omega)]
theorem fold_set' (off:Nat) (v:Value) (C:Array Value) (h:off+v.cells.size<=C.size) :
  v.cells.zipIdx.foldl (fun cs (x:Value × Nat)=>cs.setIfInBounds (off+x.2) x.1) C=(C.toList.take off++v.cells.toList++C.toList.drop (off+v.cells.toList.length)).toArray:=by
 rw [<-Array.foldl_toList,Array.toList_zipIdx]
 obtain ⟨h1,h2,h3⟩:=fold_set off v.cells.toList 0 C (by simpa using h) _ rfl
 apply Array.toList_inj.1
 rw [List.toList_toArray]
 refine list_put (by simpa using h) (by simpa using h1) (fun j x hj=>?_) (fun i hi=>?_)
 ·rw [Array.getElem?_toList]; exact h2 j x hj
 ·rw [Array.getElem?_toList,Array.getElem?_toList]; exact h3 i (by simpa using hi)
theorem fill_cons (place:Nat->Option (Nat × Nat)) (C:Array Value) (i:Nat) (v:Value) (rest:List (Nat × Value)) (off size:Nat) (hp:place i=some (off,size)) (hs:v.cells.size=size) (hl:off+size<=C.size) :
  Instr.fill place C ((i,v) :: rest)=Instr.fill place (C.toList.take off++v.cells.toList++C.toList.drop (off+v.cells.toList.length)).toArray rest:=by
 rw [Instr.fill,hp]
 simp only
 rw [if_neg (by simp; omega),<-fold_set' off v C (by omega)]
noncomputable def lget (s:Ty) (d:Lst):Option (List s.den):=@dite _ (d.1=s) (Classical.propDecidable _) (fun h=>some (h ▸ d.2)) (fun _=>none)
theorem lget_same (s:Ty) (l:List s.den):lget s ⟨s,l⟩=some l:=by unfold lget; rw [dif_pos rfl]
theorem lget_eq {s:Ty} {d:Lst} {l:List s.den} (h:lget s d=some l):d=⟨s,l⟩:=by
 unfold lget at h
 split at h
 ·rename_i e
  obtain ⟨t,m⟩:=d
  subst e
  injection h with h
  subst h
  rfl
 ·cases h
noncomputable def rdS (lm:Nat->Option Blk) (a:Ty) (v:AV):Option (List a.den) :=
 match v with
 | .sc (.slice none 0 0)=>some []
 | v=>(v.data lm).bind (lget a)
def rdI:List AV->Option Int
 | [.sc (.int .i64 n)]=>some n
 | _=>none
def rdB:List AV->Option Bool
 | [.sc (.bool n)]=>some n
 | _=>none
def rdT:List AV->Option ByteArray
 | [.sc (.string n)]=>some n
 | _=>none
def rdU:List AV->Option Int
 | [.sc (.int .u8 n)]=>some n
 | _=>none
noncomputable def rdX (lm:Nat->Option Blk) (a:Ty):List AV->Option (List a.den)
 | [v]=>rdS lm a v
 | _=>none
noncomputable def rdC (lm:Nat->Option Blk):(t:Ty)->List AV->Option t.den
 | .int,cs=>rdI cs
 | .bool,cs=>rdB cs
 | .str,cs=>rdT cs
 | .u8,cs=>rdU cs
 | .slice a,cs=>rdX lm a cs
 | .prod a b,cs=>match rdC lm a (cs.take a.size),rdC lm b (cs.drop a.size) with
  | some x,some y=>some (x,y)
  | _,_=>none
 | .cst _,_=>none
 | .ext _ _,_=>none
noncomputable def rdV (lm:Nat->Option Blk) (t:Ty) (v:AV):Option t.den :=
 match v with
 | .agg cs=>if t.isAgg=true then rdC lm t cs else none
 | v=>if t.isAgg=true then none else rdC lm t [v]
noncomputable def rdL (lm:Nat->Option Blk) (t:Ty):List AV->Option (List t.den)
 | []=>some []
 | v :: vs=>match rdV lm t v,rdL lm t vs with
  | some x,some l=>some (x :: l)
  | _,_=>none
theorem rdS_is {lm:Nat->Option Blk} {a:Ty} {v:AV} {l:List a.den} (h:rdS lm a v=some l):IsS lm a l v:=by
 unfold rdS at h
 split at h
 ·injection h with h; subst h; exact .inr ⟨rfl,rfl⟩
 ·cases hd:v.data lm with
  | none=>rw [hd] at h; cases h
  | some d=>rw [hd] at h; exact .inl (hd.trans (congrArg some (lget_eq h)))
theorem rdC_is {lm:Nat->Option Blk}:∀ {t:Ty} {cs:List AV} {x:t.den},rdC lm t cs=some x->Is lm t x cs:=by
 intro t
 induction t with
 | prod a b iha ihb =>
  intro cs x h
  simp only [rdC] at h
  split at h
  ·rename_i x1 y1 h1 h2; injection h with h; subst h; exact ⟨iha h1,ihb h2⟩
  ·cases h
 | slice a iha =>
  intro cs x h
  simp only [rdC,rdX] at h
  split at h
  ·exact ⟨_,rfl,rdS_is h⟩
  ·cases h
 | int=>intro cs x h; simp only [rdC,rdI] at h; split at h<;>first|(injection h with h; subst h; rfl)|cases h
 | bool=>intro cs x h; simp only [rdC,rdB] at h; split at h<;>first|(injection h with h; subst h; rfl)|cases h
 | str=>intro cs x h; simp only [rdC,rdT] at h; split at h<;>first|(injection h with h; subst h; rfl)|cases h
 | u8=>intro cs x h; simp only [rdC,rdU] at h; split at h<;>first|(injection h with h; subst h; rfl)|cases h
 | cst f=>intro cs x h; cases h
 | ext e a _=>intro cs x h; cases h
theorem rdV_is {lm:Nat->Option Blk} {t:Ty} {v:AV} {x:t.den} (h:rdV lm t v=some x):IsV lm ⟨t,x⟩ v:=by
 unfold rdV at h
 split at h
 ·split at h
  ·rename_i ha; exact ⟨ha,rdC_is h⟩
  ·cases h
 ·split at h
  ·cases h
  ·rename_i hv ha
   have ha':t.isAgg=false:=by simpa using ha
   cases v with
   | agg cs=>exact absurd rfl (hv cs)
   | _=>exact ⟨ha',rdC_is h⟩
theorem rdL_is {lm:Nat->Option Blk} {t:Ty}:∀ {vs:List AV} {l:List t.den},rdL lm t vs=some l->All2 (fun v x=>IsV lm ⟨t,x⟩ v) vs l
 | [],l,h=>by injection h with h; subst h; trivial
 | v :: vs,l,h=>by
  simp only [rdL] at h
  split at h
  ·rename_i x m h1 h2; injection h with h; subst h; exact ⟨rdV_is h1,rdL_is h2⟩
  ·cases h
def idx:Nat->List (Nat × Operand)->Bool
 | _,[]=>true
 | k,(i,_) :: ps=>i == k && idx (k+1) ps
theorem idx_range:∀ {ps:List (Nat × Operand)} {k:Nat},idx k ps=true->ps.map (·.1)=List.range' k ps.length
 | [],_,_=>rfl
 | (i,_) :: ps,k,h=>by
  simp only [idx,Bool.and_eq_true,beq_iff_eq] at h
  simp only [List.map_cons,List.length_cons,List.range'_succ,h.1,idx_range h.2]
def bts (P:Program) (e:TypeId):Option Nat:=(P.info? e).map (·.bytes)
section
variable (P:Program) (T:TypeId->Option Ty) (lt:Nat->Option AV) (lm:Nat->Option Blk) (nx:Nat) (K:Eff->Prop)
def aBuildSlice (ty:TypeId) (len:Nat) (parts:Array (Nat × Operand)):Prop :=
 match P.underlying ty with
 | some (.slice e) =>
  match T e,evs lt (parts.toList.map (·.2)) with
  | some t,some vs =>
   idx 0 parts.toList=true/\parts.toList.length=len/\len * t.size<=16777216/\vs.all AV.ok=true ∧
   match rdL (lmF lm (vs.flatMap AV.rows) false) t vs with
   | some l=>K ⟨.row nx 0,(nx,.row e t 0 (t.flat || ownV lm vs) l) :: frzU lm (vs.flatMap AV.rows),vs.flatMap AV.rows⟩
   | none=>False
  | _,_=>False
 | _=>False
def aAppend (ty:TypeId) (x y:Operand):Prop :=
 match P.underlying ty with
 | some (.slice e) =>
  match T e,bts P e,ev lt x,ev lt y with
  | some t,some i,some (.row k ver),some v =>
   match lm k,v.data lm with
   | some (.row e' s vv l0 l),some d =>
    match lget s d with
    | some m=>e'=e/\vv=ver/\k ∉ v.rows/\s.size=t.size/\(l.length+m.length) * i<=140737488355328/\l.length+m.length<=9223372036854775807 ∧
     K ⟨.row k (ver+1),(k,.row e s (ver+1) (s.flat || (!s.flat && l0 && OwnL lm v)) (l++m)) :: (if (!s.flat && l0 && OwnL lm v)=true then frzU lm v.rows else []),k :: v.rows⟩
    | none=>False
   | _,_=>False
  | some t,some i,some (.sc (.slice none 0 0)),some v =>
   match v.data lm with
   | some d =>
    match lget t d with
    | some m=>m.length * i<=140737488355328/\m.length<=9223372036854775807/\K ⟨.row nx 0,(nx,.row e t 0 (t.flat || (!t.flat && OwnL lm v)) m) :: (if (!t.flat && OwnL lm v)=true then frzU lm v.rows else []),v.rows⟩
    | none=>False
   | none=>False
  | _,_,_,_=>False
 | _=>False
def aMakeSlice (ty:TypeId) (x y:Operand):Prop :=
 match P.underlying ty with
 | some (.slice e) =>
  match T e,bts P e,ev lt x,ev lt y with
  | some t,some i,some (.sc (.int .i64 n)),some (.sc (.int .i64 m))=>0<=n/\n<=m/\(i:Int) * m<=281474976710656 ∧
   match t with
   | .slice .int=>n=m/\K ⟨.row nx n.toNat,[(nx,.box (List.replicate n.toNat (.sc (.slice none 0 0))))],[]⟩
   | _=>K ⟨.row nx 0,[(nx,.row e t 0 true (List.replicate n.toNat t.zero))],[]⟩
  | _,_,_,_=>False
 | _=>False
def evo (x:Option Operand) (z:Int):Option Int :=
 match x with
 | none=>some z
 | some x=>match ev lt x with
  | some (.sc (.int .i64 n))=>some n
  | _=>none
def SlcW (s:Ty) (l:List s.den) (a b:Int):AV->Prop
 | .row k ver=>K ⟨.sl s ((l.take b.toNat).drop a.toNat),frzU lm [k],[k]⟩\/(a=0/\∃ (e:TypeId) (o:Bool),lm k=some (.row e s ver o l)/\K ⟨.row k (ver+1),[(k,.row e s (ver+1) s.flat (l.take b.toNat))],[k]⟩)
 | v=>K ⟨.sl s ((l.take b.toNat).drop a.toNat),frzU lm v.rows,v.rows⟩
def aSlice (ty:TypeId) (x:Operand) (lo hi mx:Option Operand):Prop :=
 match P.underlying ty,ev lt x with
 | some (.slice e),some v =>
  match T e,v.data lm with
  | some t,some ⟨s,l⟩ =>
   match evo lt lo 0,evo lt hi l.length with
   | some a,some b=>mx=none/\t.size=s.size/\0<=a/\a<=b/\b<=l.length/\SlcW lm K s l a b v
   | _,_=>False
  | _,_=>False
 | _,_=>False
def aStoreRow (ty:TypeId) (x y:Operand):Prop :=
 match T ty,ev lt x,ev lt y with
 | some t,some (.elm k ver i off),some v =>
  match lm k with
  | some (.row e s vv oo l)=>off=0/\vv=ver/\s.size=t.size/\i < l.length/\v.ok=true/\k ∉ v.rows ∧
   match rdC (lmF lm v.rows false) s (cellsOf v) with
   | some x'=>K ⟨.junk,(k,.row e s ver (s.flat || (oo && ownV lm [v])) (l.set i x')) :: frzU lm v.rows,k :: v.rows⟩
   | none=>False
  | _=>False
 | _,_,_=>False
def aMin (xs:Array Operand):Prop :=
 match evs lt xs.toList with
 | some [.sc (.int .i64 a),.sc (.int .i64 b)]=>K (.val (.sc (.int .i64 (min a b))))
 | _=>False
def aMax (xs:Array Operand):Prop :=
 match evs lt xs.toList with
 | some [.sc (.int .i64 a),.sc (.int .i64 b)]=>K (.val (.sc (.int .i64 (max a b))))
 | _=>False
end
section
variable {P:Program} {T:TypeId->Option Ty} {c:Cx} {lt:Nat->Option AV} {lm:Nat->Option Blk} {nx:Nat} {K:Eff->Prop} {o:Oper}
theorem evs_all {σ:St} {Γ:Asg} {a:Act} {w:World} (hs:Sim c σ Γ a w) (hl:∀ t ∈ opnds o,look σ.tmps t=lt t) {xs:List Operand} {vs:List AV} (hx:∀ x ∈ xs,x ∈ o.op.operands.toList) (h:evs lt xs=some vs) (hok:vs.all AV.ok=true):All2 (fun v x=>ARep c σ.mem Γ w v (a.eval x)) vs xs :=
 evs_rep hs (fun x hxm t e=>hl t (mem_opnds (hx x hxm) e)) h hok
def plF (T:TypeId->Option Ty) (f:Field):Nat × Nat:=(f.offset,((T f.type).map Ty.size).getD 0)
theorem fillA_ok (hT:TabOK P T) {fs:Array Field} {σ:St} {Γ:Asg} {a:Act} {w:World} (hs:Sim c σ Γ a w):∀ {parts:List (Nat × Operand)} {cs cs':List AV} {us:List Value},(∀ p ∈ parts,∀ t,p.2=.tmp t->look σ.tmps t=lt t) →
  fillA T lt fs cs parts=some cs'->All2 (CRep c σ.mem Γ w) cs us->∃ us':List Value,Instr.fill (fun i=>(fs.map (plF T))[i]?) us.toArray (parts.map fun p=>(p.1,a.eval p.2))=some us'.toArray/\All2 (CRep c σ.mem Γ w) cs' us'
 | [],cs,cs',us,_,h,hc=>by injection h with h; subst h; exact ⟨us,rfl,hc⟩
 | (i,x) :: parts,cs,cs',us,hl,h,hc=>by
  simp only [fillA] at h
  split at h
  ·rename_i fd v hfd hv
   split at h
   ·rename_i ft hft
    split at h
    ·rename_i hcond
     obtain ⟨hok,h1,h2⟩:=hcond
     have hr:=(ev_rep hs (hl (i,x) List.mem_cons_self) hv).cells hok
     have hlr:=hr.len
     have hlc:=hc.len
     obtain ⟨us',h3,h4⟩:=fillA_ok hT hs (fun p hp=>hl p (List.mem_cons_of_mem _ hp)) h (((hc.take fd.offset).app hr).app (hc.drop (fd.offset+(cellsOf v).length)))
     refine ⟨us',?_,h4⟩
     simp only [Array.length_toList] at hlr
     rw [List.map_cons,fill_cons _ _ _ _ _ fd.offset ft.size (by simp [plF,hfd,hft]) (by simp only; omega) (by simp; omega)]
     simp only [Array.length_toList,List.toList_toArray]
     rw [<-hlr]; exact h3
    ·cases h
   ·cases h
  ·cases h
theorem mapM_places (hT:TabOK P T) {w:World}:∀ (fs:List Field),fs.all (fun fd=>(T fd.type).isSome)=true →
  (fs.mapM fun (f:Field)=>(do pure (f.offset,<-sizeOf f.type):Sem (Nat × Nat))).run P w=.ok (fs.map (plF T)) w
 | [],_=>rfl
 | f :: fs,h=>by
  simp only [List.all_cons,Bool.and_eq_true] at h
  obtain ⟨ft,hft⟩:=Option.isSome_iff_exists.1 h.1
  have ih:=mapM_places hT (w:=w) fs h.2
  simp only [List.mapM_cons,Sem.run_bind,(hT _ _ hft).sizeOf,Result.andThen_ok,Sem.run_pure,ih,List.map_cons,plF,hft,Option.map_some,Option.getD_some]
theorem aBuild_ok (hT:TabOK P T) {ty:TypeId} {parts:Array (Nat × Operand)} (ho:o.op=.build ty parts) (h:aBuild P T lt K ty parts):∃ e,K e/\SOK P c lt lm nx o e:=by
 unfold aBuild at h
 split at h
 ·rename_i t fs ht hu
  obtain ⟨hall,h⟩:=h
  split at h
  ·rename_i cs hcs
   refine ⟨_,h,SOK.pure fun σ Γ a w hs hl _=>?_⟩
   have hz:=zcl_rep (c:=c) (M:=σ.mem) (Γ:=Γ) (w:=w) t
   obtain ⟨us',h1,h2⟩:=fillA_ok hT hs (fun p hp t' e=>hl t' (mem_opnds (x:=p.2) (by simp only [ho,Op.operands]; exact List.mem_map.2 ⟨p,hp,rfl⟩) e)) hcs hz
   refine ⟨.agg us'.toArray,?_,us',rfl,h2⟩
   have hm:=mapM_places hT (w:=w) fs.toList hall
   have hm2:(fs.mapM fun (f:Field)=>(do pure (f.offset,<-sizeOf f.type):Sem (Nat × Nat))).run P w=.ok (fs.map (plF T)) w:=by
    obtain ⟨l⟩:=fs
    rw [List.mapM_toArray,map_eq_pure_bind,Sem.run_bind,hm]
    simp
   have hz2:t.zv.cells=t.zc.toArray:=zv_cells t
   have h1':Instr.fill (fun i=>(fs.map (plF T))[i]?) t.zc.toArray ((parts.map fun x=>(x.1,a.eval x.2)).toList)=some us'.toArray:=by rw [Array.toList_map]; exact h1
   simp only [execOp,ho,Instr.build,Sem.run_bind,(hT _ _ ht).zero,Result.andThen_ok,run_underlying hu,hm2,hz2,h1',Sem.run_pure]
  ·exact h.elim
 ·exact h.elim
theorem frzU_none {ks:List Nat}:∀ {lm:Nat->Option Blk} {k:Nat},lm k=none->look (frzU lm ks) k=none:=by
 induction ks with
 | nil=>intros; rfl
 | cons j ks ih =>
  intro lm k h
  simp only [frzU]
  split
  ·rename_i B hB
   by_cases hkj:k=j
   ·subst hkj; rw [h] at hB; cases hB
   ·rw [look_app,ih (by simp only [if_neg hkj]; exact h),look_ne _ _ hkj]; rfl
  ·exact ih h
theorem fill_range {size:Nat} (hs:0 < size):∀ (us:List Value) (k:Nat) (C:Array Value),(∀ u ∈ us,u.cells.size=size)->C.size=(k+us.length) * size →
  Instr.fill (fun i=>some (i * size,size)) C ((us.zipIdx k).map fun x=>(x.2,x.1))=some (C.toList.take (k * size)++(us.map fun u=>u.cells.toList).flatten).toArray
 | [],k,C,_,hC=>by
  simp only [List.length_nil,Nat.add_zero] at hC
  simp only [List.zipIdx_nil,List.map_nil,Instr.fill,List.flatten_nil,List.append_nil]
  rw [List.take_of_length_le (by simp [hC])]
 | u :: us,k,C,hu,hC=>by
  have h1:=hu u List.mem_cons_self
  simp only [List.length_cons] at hC
  have e1:(k+(us.length+1)) * size=k * size+size+us.length * size:=by rw [Nat.add_mul,Nat.succ_mul]; omega
  rw [e1] at hC
  rw [List.zipIdx_cons,List.map_cons,fill_cons _ _ _ _ _ (k * size) size rfl h1 (by omega),fill_range hs us (k+1) _ (fun x hx=>hu x (List.mem_cons_of_mem _ hx))
   (by simp only [List.size_toArray,List.length_append,List.length_take,List.length_drop,Array.length_toList]; rw [Nat.add_mul,Nat.succ_mul]; omega)]
  congr 2
  have e2:(C.toList.take (k * size)++u.cells.toList++C.toList.drop (k * size+u.cells.toList.length)).take ((k+1) * size)=C.toList.take (k * size)++u.cells.toList:=by
   refine List.take_left' ?_
   simp only [List.length_append,List.length_take,Array.length_toList]
   rw [Nat.succ_mul]; omega
  rw [List.toList_toArray,e2,List.map_cons,List.flatten_cons,List.append_assoc]
theorem pk_cells {t:Ty} {u:Value} {cs:List Value} (h:pk t u cs) (h1:∀ v ∈ cs,v.oneCell'=true):u.cells.toList=cs:=by
 rcases h with ⟨_,rfl⟩|⟨_,rfl⟩
 ·rfl
 ·have:=h1 u (by simp)
  cases u<;>first|rfl|cases this
theorem all2_rows {t:Ty} {w:World} {G:Nat->Prop}:∀ {us:List Value} {l:List t.den},All2 (fun u x=>∃ fp,DRep w u ⟨t,x⟩ fp/\∀ b ∈ fp,G b) us l->∃ fps,RowsOf t.rp w l (us.map fun u=>u.cells.toList) fps/\∀ b ∈ fps.flatten,G b
 | [],[],_=>⟨[],⟨rfl,rfl,fun i x h=>by simp at h⟩,fun b hb=>by simp at hb⟩
 | u :: us,x :: l,⟨⟨fp,⟨cs,hp,hr⟩,hg⟩,h2⟩=>by
  obtain ⟨fps,⟨r1,r2,r3⟩,hgs⟩:=all2_rows h2
  refine ⟨fp :: fps,⟨by simpa using r1,by simpa using r2,fun i y hy=>?_⟩,fun b hb=>?_⟩
  ·cases i with
   | zero =>
    simp at hy; subst hy
    exact ⟨cs,fp,by simp [pk_cells hp (t.rp.one hr)],rfl,hr⟩
   | succ i=>simpa using r3 i y (by simpa using hy)
  ·rw [List.flatten_cons,List.mem_append] at hb
   exact hb.elim (hg b) (hgs b)
 | [],_ :: _,h=>h.elim
 | _ :: _,[],h=>h.elim
theorem all2_map {α β γ:Type} {R:α->β->Prop} {R':α->γ->Prop} {f:β->γ}:∀ {l:List α} {m:List β},(∀ a b,R a b->R' a (f b))->All2 R l m->All2 R' l (m.map f)
 | [],[],_,_=>trivial
 | _ :: _,_ :: _,h,⟨h1,h2⟩=>⟨h _ _ h1,all2_map h h2⟩
 | [],_ :: _,_,h=>h.elim
 | _ :: _,[],_,h=>h.elim
theorem all2_join {α β γ:Type} {R:α->β->Prop} {R':α->γ->Prop} {Q:β->γ->Prop}:∀ {l:List α} {m:List β} {n:List γ},(∀ a b c,a ∈ l->R a b->R' a c->Q b c)->All2 R l m->All2 R' l n->All2 Q m n
 | [],[],[],_,_,_=>trivial
 | a :: _,b :: _,c :: _,h,⟨h1,h2⟩,⟨h3,h4⟩=>⟨h _ _ _ List.mem_cons_self h1 h3,all2_join (fun a b c ha=>h a b c (List.mem_cons_of_mem _ ha)) h2 h4⟩
 | [],_ :: _,_,_,h,_=>h.elim
 | _ :: _,[],_,_,h,_=>h.elim
 | [],[],_ :: _,_,_,h=>h.elim
 | _ :: _,_ :: _,[],_,_,h=>h.elim
theorem flat_rows {t:Ty} {w:World} {l:List t.den} {css:List (List Value)} {fps:List (List Nat)} (hf:t.flat=true) (h:RowsOf t.rp w l css fps):fps.flatten=[]:=by
 refine List.flatten_eq_nil_iff.2 fun f hfm=>?_
 obtain ⟨i,hi,rfl⟩:=List.getElem_of_mem hfm
 obtain ⟨cs,f,_,h2,h3⟩:=h.2.2 i (l[i]'(by have:=h.2.1; omega)) (List.getElem?_eq_getElem (by have:=h.2.1; omega))
 rw [List.getElem?_eq_getElem hi] at h2
 injection h2 with h2
 rw [h2]; exact flat_rep hf h3
theorem aBuildSlice_ok (hT:TabOK P T) (hnx:∀ k,nx<=k->lm k=none) {ty:TypeId} {len:Nat} {parts:Array (Nat × Operand)} (ho:o.op=.buildSlice ty len parts) (h:aBuildSlice P T lt lm nx K ty len parts):∃ e,K e/\SOK P c lt lm nx o e:=by
 unfold aBuildSlice at h
 split at h
 ·rename_i e hu
  split at h
  ·rename_i t vs ht hvs
   obtain ⟨hix0,hixl,hlen,hok,h⟩:=h
   split at h
   rotate_left
   ·exact h.elim
   rename_i l hl3
   have hl2:=rdL_is hl3
   have hK:=h
   have hix:parts.toList.map (·.1)=List.range len:=by rw [idx_range hix0,hixl,List.range_eq_range']
   refine ⟨_,hK,fun p hp=>?_,fun σ Γ a w hs hl hm hn hd K' Q hK'=>?_⟩
   ·rcases List.mem_cons.1 hp with rfl|hp
    ·exact .inl (Nat.le_refl _)
    ·exact .inr (frzU_mem hp)
   have hnone:look σ.mem nx=none:=by
    by_cases hin:nx ∈ vs.flatMap AV.rows
    ·rw [hm nx hin]; exact hnx nx (Nat.le_refl _)
    ·exact hn (nx,_) List.mem_cons_self hin
   have hf':=hs.frz (ks:=vs.flatMap AV.rows)
   have hcongr:frzU (look σ.mem) (vs.flatMap AV.rows)=frzU lm (vs.flatMap AV.rows):=frzU_congr fun k hk=>hm k hk
   rw [hcongr] at hf'
   have hrows:∀ v ∈ vs,∀ k ∈ v.rows,k ∈ vs.flatMap AV.rows:=fun v hv k hk=>List.mem_flatMap.2 ⟨v,hv,hk⟩
   have hv:=evs_all hf' hl (xs:=parts.toList.map (·.2)) (fun x hx=>by
    obtain ⟨p,hp,rfl⟩:=List.mem_map.1 hx
    simp only [ho,Op.operands]; exact List.mem_map.2 ⟨p,hp,rfl⟩) hvs hok
   have hv2:=all2_map (f:=a.eval) (R':=fun v u=>ARep c (frzU lm (vs.flatMap AV.rows)++σ.mem) Γ w v u) (fun _ _ h=>h) hv
   have hdr:All2 (fun u x=>∃ fp,DRep w u ⟨t,x⟩ fp/\∀ b ∈ fp,Gd c (frzU lm (vs.flatMap AV.rows)++σ.mem) Γ b) ((parts.toList.map (·.2)).map a.eval) l:=by
    refine all2_join (fun v u x hvm hvr hi=>?_) hv2 hl2
    have hi:IsV (fun j=>(look (frzU lm (vs.flatMap AV.rows)) j).or (lm j)) ⟨t,x⟩ v:=hi
    obtain ⟨fp,h1,_,h3⟩:=hf'.isVRep hvr (IsV_congr (fun k hk=>by rw [look_app,hm k (hrows v hvm k hk)]) hi)
    refine ⟨fp,h1,h3 fun k hk e t v' o' l hrow=>?_⟩
    rw [<-hcongr] at hrow
    exact (frz_no hrow).1 (hrows v hvm k hk)
   have hcore:∃ fps,RowsOf t.rp w l (((parts.toList.map (·.2)).map a.eval).map fun u=>u.cells.toList) fps/\(∀ b ∈ fps.flatten,Gd c (frzU lm (vs.flatMap AV.rows)++σ.mem) Γ b) ∧
     ((t.flat || ownV lm vs)=true->OwnR c w fps.flatten/\∀ b ∈ fps.flatten,∀ j B,look (frzU lm (vs.flatMap AV.rows)++σ.mem) j=some B->b ∉ B.ofp Γ j):=by
    by_cases hov:ownV lm vs=true
    ·have hv0:=evs_all hs hl (xs:=parts.toList.map (·.2)) (fun x hx=>by
      obtain ⟨p,hp,rfl⟩:=List.mem_map.1 hx
      simp only [ho,Op.operands]; exact List.mem_map.2 ⟨p,hp,rfl⟩) hvs hok
     have hv1:=all2_map (f:=a.eval) (R':=fun v u=>ARep c σ.mem Γ w v u) (fun _ _ h=>h) hv0
     have hovL:∀ v ∈ vs,∀ u ∈ cellsOf v,OwnL lm u=true:=by
      simp only [ownV,Bool.and_eq_true] at hov
      exact fun v hv u hu=>List.all_eq_true.1 (List.all_eq_true.1 hov.1 v hv) u hu
     rw [<-ownV_congr hok (fun k hk=>hm k hk)] at hov
     have hov2:=hov
     simp only [ownV,Bool.and_eq_true,decide_eq_true_eq] at hov2
     have hi1:All2 (fun v x=>IsV (look σ.mem) ⟨t,x⟩ v) vs l:=hl2.mono fun v x hv hi=>IsV_congr (fun k hk=>hm k (hrows v hv k hk)) (IsV_data (fun u hu=>(data_lmF lm _ false u (own_nm (hovL v hv u hu))).symm) hi)
     obtain ⟨fps,r1,r2,r3⟩:=take_list hs hv1 hok hi1 hov2.1 hov2.2
     have hfree:∀ b ∈ fps.flatten,∀ j B,look (frzU lm (vs.flatMap AV.rows)++σ.mem) j=some B->¬ B.mut Γ j b/\b ∉ B.ofp Γ j:=by
      intro b hb j B hj
      obtain ⟨k,hk,hh,hlv⟩:=r3 b hb
      obtain ⟨v,hv,hkv⟩:=List.mem_flatMap.1 hk
      rw [rows_cells (List.all_eq_true.1 hok v hv)] at hkv
      rw [<-hcongr] at hj
      exact frz_free hs (hrows v hv k hkv) hlv hh hj
     exact ⟨fps,r1,fun b hb=>⟨(r2.2 b hb).1.gd,fun ⟨j,B,hj,hmu⟩=>(hfree b hb j B hj).1 hmu⟩,fun _=>⟨r2,fun b hb j B hj=>(hfree b hb j B hj).2⟩⟩
    ·obtain ⟨fps,hrw,hgd⟩:=all2_rows hdr
     refine ⟨fps,hrw,hgd,fun hfl=>?_⟩
     have hfl':t.flat=true:=by simpa [hov] using hfl
     rw [flat_rows hfl' hrw]; exact ⟨ownR_nil _ _,fun b hb=>by cases hb⟩
   obtain ⟨fps,hrw,hgd,hown⟩:=hcore
   have hll:l.length=len:=by
    have h1:=hdr.len
    have h2:=congrArg List.length hix
    simp at h1 h2; omega
   have hp0:=t.pos
   have hszu:∀ u ∈ (parts.toList.map (·.2)).map a.eval,u.cells.size=t.size:=by
    intro u hu
    have:=hrw.len u.cells.toList (List.mem_map.2 ⟨u,hu,rfl⟩)
    rw [t.rp_size] at this; simpa using this
   have hrun:(execOp a.eval o).run P w=.ok (.value (.slice (some ⟨w.heap.size,0,none⟩) len len)) (w.alloc (.cells (((parts.toList.map (·.2)).map a.eval).map fun u=>u.cells.toList).flatten.toArray e)):=by
    have hfill:=fill_range (size:=t.size) (by rw [<-t.rp_size]; exact hp0) ((parts.toList.map (·.2)).map a.eval) 0 ((Array.range (len * t.size)).map (t.zv.cells[· % t.zv.cells.size]!)) hszu (by
     have h2:=congrArg List.length hix
     simp at h2; simp [h2])
    have hparts:(((parts.toList.map (·.2)).map a.eval).zipIdx 0).map (fun x=>(x.2,x.1))=(parts.map fun x=>(x.1,a.eval x.2)).toList:=by
     rw [Array.toList_map]
     apply List.ext_getElem?
     intro i
     rw [List.getElem?_map,List.getElem?_zipIdx,List.getElem?_map,List.getElem?_map,List.getElem?_map]
     cases hpi:parts.toList[i]? with
     | none=>rfl
     | some p =>
      have h2:(parts.toList.map (·.1))[i]? = some p.1:=by rw [List.getElem?_map,hpi]; rfl
      rw [hix] at h2
      have h3:=List.getElem?_eq_some_iff.1 h2
      obtain ⟨h3,h4⟩:=h3
      rw [List.getElem_range] at h4
      simp [h4]
    rw [hparts] at hfill
    simp only [Nat.zero_mul,List.take_zero,List.nil_append] at hfill
    have hsz:=(hT e t ht).sizeOf
    have hzv:=(hT e t ht).zero
    by_cases h0:len * t.size=0
    ·have hr0:∀ f:Nat->Value,(Array.range (len * t.size)).map f=#[]:=fun f=>Array.eq_empty_of_size_eq_zero (by simp only [Array.size_map,Array.size_range]; exact h0)
     have h24:¬ len * t.size > 2 ^ 24:=by omega
     rw [hr0] at hfill
     simp only [execOp,ho,Instr.buildSlice,Sem.run_bind,run_underlying hu,Result.andThen_ok,hsz,if_pos h0,if_neg h24,Sem.run_pure,hr0]
     rw [hfill]
     simp [newRow]
    ·have h24:¬ len * t.size > 2 ^ 24:=by omega
     simp only [execOp,ho,Instr.buildSlice,Sem.run_bind,run_underlying hu,Result.andThen_ok,hsz,h0,if_false,h24,hzv,Sem.run_pure]
     rw [hfill]
     simp [newRow]
   have hgf:=growF_new (base:=c.base) (e:=e) hs.hb hrw (by simp only [maxLen]; have:len<=len * t.size:=Nat.le_mul_of_pos_right _ (by rw [<-t.rp_size]; exact hp0); omega) [] len (by omega) (by simp only [maxLen]; have:len<=len * t.size:=Nat.le_mul_of_pos_right _ (by rw [<-t.rp_size]; exact hp0); omega) (by rw [hll]; simp)
   rw [List.append_nil,hll] at hgf
   have hnone':look (frzU lm (vs.flatMap AV.rows)++σ.mem) nx=none:=by rw [look_app,frzU_none (hnx nx (Nat.le_refl _)),hnone]; rfl
   have hflt:∀ b ∈ fps.flatten,b < w.heap.size:=by
    intro b hb
    obtain ⟨f,hf,hbf⟩:=List.mem_flatten.1 hb
    obtain ⟨i,hi,rfl⟩:=List.getElem_of_mem hf
    obtain ⟨cs,f',_,h2,h3⟩:=hrw.2.2 i (l[i]'(by have:=hrw.2.1; omega)) (List.getElem?_eq_getElem (by have:=hrw.2.1; omega))
    rw [List.getElem?_eq_getElem hi] at h2
    injection h2 with h2
    rw [h2] at hbf
    exact t.rp.lt h3 b hbf
   have hs2:=hf'.newRow (k:=nx) (o:=t.flat || ownV lm vs) hnone' (below_alloc w _) hgf (fun b hb=>by injection hb with hb; subst hb; exact Nat.le_refl _) (fun b hb=>.inr ⟨hflt b hb,hgd b hb⟩)
    (fun hfl=>⟨ownR_frame (hown hfl).1 fun b hb=>(below_alloc w _).block b (hflt b hb),(hown hfl).2⟩)
   refine wp_value hrun (hK' (Γ.setR nx (.slice (some ⟨w.heap.size,0,none⟩) len len) fps.flatten) _ _ ?_)
   have h4:=hs2.put (d:=o.dst) (v:=.row nx 0) (u:=.slice (some ⟨w.heap.size,0,none⟩) len len) ⟨rfl,_,look_self ..,Nat.le_refl _,fun _=>by rw [Asg.setR_hd]⟩ (fun x hx=>hd x hx)
   unfold St.app
   cases hdst:o.dst<;>simp only [hdst,St.put] at h4 ⊢<;>exact h4
  ·exact h.elim
 ·exact h.elim
end
section
variable {P:Program} {T:TypeId->Option Ty} {c:Cx} {lt:Nat->Option AV} {lm:Nat->Option Blk} {nx:Nat} {K:Eff->Prop} {o:Oper}
theorem growF_rows {t:Ty} {base:Nat} {w:World} {e:TypeId} {v:Value} {l:List t.den} {fps:List (List Nat)} (h:GrowF t.rp base w e v l fps) :
  ∃ ad cc css,v=.slice ad l.length cc/\RowsOf t.rp w l css fps/\(ad=none->l=[])/\∀ a,ad=some a->∀ j d,css.flatten[j]? = some d->w.cell? (a.add j)=some d:=by
 obtain ⟨xs,ho,hfl,he⟩:=h
 have hex:∀ i,i < l.length->∃ cs:List Value,∀ x,l[i]? = some x->∃ f,fps[i]? = some f/\t.rp.rep w cs x f/\∀ j d,cs[j]? = some d->xs[i * t.rp.size+j]? = some d:=by
  intro i hi
  obtain ⟨f,cs,h1,h2,h3⟩:=he i l[i] (List.getElem?_eq_getElem hi)
  refine ⟨cs,fun x hx=>?_⟩
  rw [List.getElem?_eq_getElem hi] at hx
  injection hx with hx
  subst hx
  exact ⟨f,h1,h2,h3⟩
 obtain ⟨css,hcl,hcs⟩:=exList l.length hex
 have hrows:RowsOf t.rp w l css fps:=by
  refine ⟨hcl,hfl,fun i x hx=>?_⟩
  have hi:=(List.getElem?_eq_some_iff.1 hx).1
  have hc:css[i]? = some (css[i]'(by omega)):=List.getElem?_eq_getElem (by omega)
  obtain ⟨f,h1,h2,_⟩:=hcs i _ hc x hx
  exact ⟨_,f,hc,h1,h2⟩
 rcases ho.2 with ⟨hn,h0⟩|⟨g,cap,cur,hv,hbg,hg',h1',h2',h3',h4'⟩
 ·have:l=[]:=List.eq_nil_of_length_eq_zero h0
  subst this
  exact ⟨none,0,css,by rw [hn]; rfl,hrows,fun _=>rfl,fun a ha=>by cases ha⟩
 ·refine ⟨_,cap,css,hv,hrows,(fun hn=>by cases hn),fun a ha j d hd=>?_⟩
  injection ha with ha
  subst ha
  obtain ⟨cs,hc,hd⟩:=flat_back t.pos hrows.len hd
  have hi:j / t.rp.size < l.length:=by have:=(List.getElem?_eq_some_iff.1 hc).1; omega
  obtain ⟨f,_,_,h3⟩:=hcs _ cs hc _ (List.getElem?_eq_getElem hi)
  have:=h3 _ d hd
  rw [show j / t.rp.size * t.rp.size+j % t.rp.size=j by rw [Nat.mul_comm]; exact Nat.div_add_mod j _] at this
  rw [addr_add,Nat.zero_add,cell_of_row w g _ cur _ (0,0) hg',<-Array.getElem?_toList]
  rw [<-h4',List.getElem?_take] at this
  split at this
  ·exact this
  ·cases this
theorem data_rows {σ:St} {Γ:Asg} {a:Act} {w:World} (hs:Sim c σ Γ a w) {v:AV} {u:Value} {t:Ty} {l:List t.den} (hv:VRep c σ.mem Γ w v u) (hm:∀ k ∈ v.rows,look σ.mem k=lm k) (hd:v.data lm=some ⟨t,l⟩) :
  ∃ ad cc css fps,u=.slice ad l.length cc/\RowsOf t.rp w l css fps/\(∀ b ∈ fps.flatten,Gd c σ.mem Γ b)/\(ad=none->l=[])/\∀ a,ad=some a->∀ j d,css.flatten[j]? = some d->w.cell? (a.add j)=some d:=by
 by_cases hrow:∃ k ver e v' o l',v=.row k ver/\look σ.mem k=some (.row e t v' o l')
 ·obtain ⟨k,ver,e,v',o',l',rfl,hk⟩:=hrow
  have hd':=data_congr' hm hd
  simp only [AV.data,hk,Option.bind_some,Blk.data] at hd'
  split at hd'
  ·rename_i hvv
   injection hd' with hd'; injection hd' with _ d2
   obtain rfl:=d2
   obtain ⟨fps,hg,hf,hgd,_⟩:=hs.mm k _ hk
   obtain ⟨_,B,hB,hbh⟩:=hv
   rw [hk] at hB; injection hB with hB; subst hB
   rw [hbh.2 hvv]
   obtain ⟨ad,cc,css,h1,h2,h3,h4⟩:=growF_rows hg.1
   exact ⟨ad,cc,css,fps,h1,h2,fun b hb=>hgd b (hf ▸ hb),h3,h4⟩
  ·cases hd'
 ·obtain ⟨fp,hr,_,hg⟩:=data_rep hs hv hm hd
  obtain ⟨ad,cc,css,fps,h1,h2,h3,h4,h5⟩:=slice_rows hr
  refine ⟨ad,cc,css,fps,h1,h2,fun b hb=>hg (fun k ver e e' t' v' o' l' hk=>?_) b (h3 b hb),h4,h5⟩
  subst e
  have hd':=data_congr' hm hd
  have hd2:=hd'
  simp only [AV.data,hk,Option.bind_some,Blk.data] at hd2
  split at hd2
  ·injection hd2 with hd2; injection hd2 with d1 d2
   subst d1
   exact hrow ⟨k,ver,e',v',o',l',rfl,hk⟩
  ·cases hd2
theorem rows_lt {t:Ty} {w:World} {l:List t.den} {css:List (List Value)} {fps:List (List Nat)} (hrw:RowsOf t.rp w l css fps):∀ b ∈ fps.flatten,b < w.heap.size:=by
 intro b hb
 obtain ⟨f,hf,hbf⟩:=List.mem_flatten.1 hb
 obtain ⟨i,hi,rfl⟩:=List.getElem_of_mem hf
 obtain ⟨cs,f',_,h2,h3⟩:=hrw.2.2 i (l[i]'(by have:=hrw.2.1; omega)) (List.getElem?_eq_getElem (by have:=hrw.2.1; omega))
 rw [List.getElem?_eq_getElem hi] at h2
 injection h2 with h2
 rw [h2] at hbf
 exact t.rp.lt h3 b hbf
theorem growF_flat {t:Ty} {base:Nat} {w:World} {e:TypeId} {v:Value} {l:List t.den} {fps:List (List Nat)} (hf:t.flat=true) (h:GrowF t.rp base w e v l fps):fps.flatten=[]:=by
 obtain ⟨ad,cc,css,_,h2,_⟩:=growF_rows h
 exact flat_rows hf h2
theorem put_fin {σ σ':St} {Γ':Asg} {a:Act} {w':World} {K':Act->World->Prop} {e:Eff} {u:Value} (hK':∀ Γ' a' w',Sim c (σ.app o.dst e) Γ' a' w'->K' a' w') (hd:∀ d,o.dst=some d->d < c.n) (hs:Sim c σ' Γ' a w') (hv:VRep c σ'.mem Γ' w' e.v u) (h0:σ'.tmps=σ.tmps) (h1:σ'.mem=e.mems++σ.mem):K' (a.put o.dst u) w':=by
 refine hK' Γ' _ _ ?_
 have:=hs.put (d:=o.dst) hv (fun x hx=>hd x hx)
 unfold St.app
 rw [<-h1]
 cases hdst:o.dst<;>simp only [hdst,St.put,h0] at this ⊢<;>first|exact this|(rw [<-h0]; exact this)
theorem zv_size (t:Ty):t.zv.cells.size=t.size:=by rw [zv_cells]; simp [zc_len]
theorem aAppend_ok (hT:TabOK P T) (hnx:∀ k,nx<=k->lm k=none) {ty:TypeId} {x y:Operand} (ho:o.op=.call { callee:=.builtin .append,args:=#[x,y],argTypes:=#[ty,ty] }) (h:aAppend P T lt lm nx K ty x y):∃ e,K e/\SOK P c lt lm nx o e:=by
 unfold aAppend at h
 have hm1:x ∈ o.op.operands.toList:=by simp [ho,Op.operands,Call.operands]
 have hm2:y ∈ o.op.operands.toList:=by simp [ho,Op.operands,Call.operands]
 have hrun:∀ (a:Act) (w w':World) (u v v':Value),a.eval x=u->a.eval y=v->(Builtin.append_ #[ty,ty] o.type #[u,v]).run P w=.ok v' w'->(execOp a.eval o).run P w=.ok (.value v') w':=by
  intro a w w' u v v' h1 h2 h3
  simp only [execOp,ho,resolve,invoke,builtin,Sem.run_bind,Sem.run_pure,Result.andThen_ok,List.map_toArray,List.map_cons,List.map_nil,h1,h2,h3]
 split at h
 ·rename_i e hu
  split at h
  ·rename_i t i k ver v ht hi hx hy
   split at h
   ·rename_i e' s vv oo l d hk hdat
    split at h
    rotate_left
    ·exact h.elim
    rename_i m hmg
    obtain rfl:=lget_eq hmg
    obtain ⟨rfl,rfl,hkv,hss,hb1,hb2,hK⟩:=h
    obtain ⟨i',dd,hi1,hi2,hi3,_,_⟩:=hT _ _ ht
    simp only [bts,hi1,Option.map_some,Option.some.injEq] at hi
    subst hi
    have hsz':=s.rp_size
    have hps:=s.pos
    by_cases how:(!s.flat && oo && OwnL lm v)=true
    ·rw [how,Bool.or_true,if_pos rfl] at hK
     refine ⟨_,hK,fun p hp=>?_,fun σ Γ a w hs hl hm hn hd K' Q hK'=>?_⟩
     ·rcases List.mem_cons.1 hp with rfl|hp
      ·exact .inr List.mem_cons_self
      ·exact .inr (List.mem_cons_of_mem _ (frzU_mem hp))
     simp only [Bool.and_eq_true,Bool.not_eq_true'] at how
     obtain ⟨⟨hnf,rfl⟩,how⟩:=how
     have hk':=(hm k List.mem_cons_self).trans hk
     have hmv:∀ j ∈ v.rows,look σ.mem j=lm j:=fun j hj=>hm j (List.mem_cons_of_mem _ hj)
     have hvr:=op_ev hs hl hm2 hy
     obtain ⟨k2,ver2,rfl⟩:∃ k2 ver2,v=.row k2 ver2:=by
      cases v with
      | row k2 ver2=>exact ⟨k2,ver2,rfl⟩
      | sl _ _=>cases how
      | fx _ _ _=>cases how
      | _=>cases hdat
     have hkk:k ≠ k2:=fun e=>hkv (by rw [e]; exact List.mem_singleton.2 rfl)
     have how':OwnC σ (.row k2 ver2)=true:=by
      rw [OwnC,ownL_congr (lm:=lm) (fun k' ver' he=>(by cases he; exact hmv k2 (List.mem_singleton.2 rfl)))]; exact how
     have hdat':(AV.row k2 ver2).data (look σ.mem)=some ⟨s,m⟩:=by rw [<-hdat]; exact data_congr fun k' ver' he=>(by cases he; exact hmv k2 (List.mem_singleton.2 rfl))
     obtain ⟨fp,hr,hofp,hhold⟩:=hs.ownRep (t:=.slice s) (cs:=[.row k2 ver2]) (us:=[a.eval y]) ⟨hvr,trivial⟩ ⟨_,rfl,.inl hdat'⟩ (by simp [how']) (by simp [cellRows])
     have hlive:=ownC_live how'
     obtain ⟨ad,cc,css,fps2,hu2,hr2,hsub,hn2,hc2,hfpx⟩:=slice_rows' (p:=s.pos) hr
     have ho2:OwnR c w fps2.flatten:=by
      rcases hfpx with e|⟨b,e⟩
      ·rw [e]; exact ownR_nil _ _
      ·rw [e] at hofp; exact ⟨(List.nodup_cons.1 hofp.1).2,fun b hb=>hofp.2 b (List.mem_cons_of_mem _ hb)⟩
     have hh2:∀ b ∈ fps2.flatten,Holds σ Γ k2 b:=fun b hb=>by
      obtain ⟨k3,hk3,hh⟩:=hhold b (hsub b hb)
      have:k3=k2:=by simpa [cellRows] using hk3
      rwa [this] at hh
     have hf':=hs.frz (ks:=[k2])
     have hcongr:frzU (look σ.mem) [k2]=frzU lm [k2]:=frzU_congr fun j hj=>hmv j hj
     have hfree:∀ b ∈ fps2.flatten,∀ j B,look (frzU lm [k2]++σ.mem) j=some B->¬ B.mut Γ j b/\b ∉ B.ofp Γ j:=fun b hb j B hj=>by
      rw [<-hcongr] at hj
      exact frz_free hs (List.mem_singleton.2 rfl) hlive (hh2 b hb) hj
     rw [hcongr] at hf'
     have hkf:look (frzU lm [k2]++σ.mem) k=some (.row e' s vv true l):=by
      rw [look_app]
      cases hq:look (frzU lm [k2]) k with
      | none=>exact hk'
      | some B=>obtain ⟨q,hq1,hq2⟩:=look_mem hq; have:=frzU_mem hq1; rw [hq2] at this; exact absurd (List.mem_singleton.1 this) hkk
     obtain ⟨fps,hg,hf,hgd,hon⟩:=hf'.mm k _ hkf
     obtain ⟨_,B,hB,hbh⟩:=(op_ev hs hl hm1 hx:VRep c σ.mem Γ w _ (a.eval x))
     rw [hk'] at hB; injection hB with hB; subst hB
     have hxe:=hbh.2 rfl
     have hg2:∀ b ∈ fps2.flatten,Gd c (frzU lm [k2]++σ.mem) Γ b:=fun b hb=>⟨(ho2.2 b hb).1.gd,fun ⟨j,B,hj,hmu⟩=>(hfree b hb j B hj).1 hmu⟩
     have hnm:∀ b,Gd c (frzU lm [k2]++σ.mem) Γ b->(Γ.hd k).ownBlock ≠ some b:=fun b hb e=>hb.2 ⟨k,_,hkf,e⟩
     obtain ⟨v',w',h1,h2,h3,h4⟩:=run_appendF (P:=P) ty o.type e' i' t.zv hu hi1 hi3 (by rw [hi2,hsz',hss]) (by rw [zv_size,hsz',hss]) hps hg.1 hu2 hr2 hn2 hc2 (by simp only [maxLen]; exact hb2) hb1 (Nat.zero_le _) (fun b hb=>hnm b (hgd b (hf ▸ hb))) (fun b hb=>hnm b (hg2 b hb))
     have hall:∀ b ∈ (fps++fps2).flatten,b < w.heap.size/\Gd c (frzU lm [k2]++σ.mem) Γ b:=by
      intro b hb
      rw [List.flatten_append,List.mem_append] at hb
      rcases hb with hb|hb
      ·exact ⟨hg.lt b hb,hgd b (hf ▸ hb)⟩
      ·exact ⟨rows_lt hr2 b hb,hg2 b hb⟩
     have ho1:=hon rfl
     rw [hf] at ho1
     have hh1:∀ b ∈ fps.flatten,Holds σ Γ k b:=fun b hb=>⟨_,hk',.inr (by simp only [Blk.ofp]; rw [hf]; exact hb)⟩
     have hs2:=hf'.updRow (ver':=vv+1) (o':=true) hkf h2 h3 (h4.imp id fun h b hb=>by rw [h] at hb; injection hb with hb; omega) (.inl rfl) hall
      (fun _=>by
       refine ⟨ownR_frame (w:=w) ⟨?_,fun b hb=>?_⟩ fun b hb=>h3.block b (hall b hb).1 fun e=>hnm b (hall b hb).2 e.symm,fun b hb j B hjk hj=>?_⟩
       ·rw [List.flatten_append,List.nodup_append]
        refine ⟨ho1.1,ho2.1,fun b hb b' hb' e=>?_⟩
        subst e
        exact hkk (holds_inj hs (hh1 b hb) (hh2 b hb'))
       ·rw [List.flatten_append,List.mem_append] at hb
        exact hb.elim (ho1.2 b) (ho2.2 b)
       ·rw [List.flatten_append,List.mem_append] at hb
        rcases hb with hb|hb
        ·exact hf'.disj k j _ B b hkf hj (Ne.symm hjk) (by simp only [Blk.ofp]; rw [hf]; exact hb)
        ·exact (hfree b hb j B hj).2)
     refine wp_value (hrun a w w' _ _ v' hxe rfl h1) (put_fin hK' hd hs2 ?_ rfl rfl)
     refine ⟨?_,_,look_self ..,Nat.le_refl _,fun _=>by rw [Asg.setR_hd]⟩
     obtain ⟨ad',cc',css',e1,_⟩:=growF_rows h2
     rw [e1]; rfl
    ·have how':(!s.flat && oo && OwnL lm v)=false:=by simpa using how
     rw [how',Bool.or_false,if_neg (by simp)] at hK
     refine ⟨_,hK,fun p hp=>?_,fun σ Γ a w hs hl hm hn hd K' Q hK'=>?_⟩
     ·simp at hp; subst hp; exact .inr List.mem_cons_self
     have hk':=(hm k List.mem_cons_self).trans hk
     obtain ⟨ad,cc,css,fps2,hu2,hr2,hg2,hn2,hc2⟩:=data_rows hs (op_ev hs hl hm2 hy) (fun j hj=>hm j (List.mem_cons_of_mem _ hj)) hdat
     obtain ⟨fps,hg,hf,hgd,_⟩:=hs.mm k _ hk'
     obtain ⟨_,B,hB,hbh⟩:=(op_ev hs hl hm1 hx:VRep c σ.mem Γ w _ (a.eval x))
     rw [hk'] at hB; injection hB with hB; subst hB
     have hxe:=hbh.2 rfl
     have hnm:∀ b,Gd c σ.mem Γ b->(Γ.hd k).ownBlock ≠ some b:=fun b hb e=>hb.2 ⟨k,_,hk',e⟩
     have hsz':=s.rp_size
     have hps:=s.pos
     obtain ⟨v',w',h1,h2,h3,h4⟩:=run_appendF (P:=P) ty o.type e' i' t.zv hu hi1 hi3 (by rw [hi2,hsz',hss]) (by rw [zv_size,hsz',hss]) hps hg.1 hu2 hr2 hn2 hc2 (by simp only [maxLen]; exact hb2) hb1 (Nat.zero_le _) (fun b hb=>hnm b (hgd b (hf ▸ hb))) (fun b hb=>hnm b (hg2 b hb))
     have hall:∀ b ∈ (fps++fps2).flatten,b < w.heap.size/\Gd c σ.mem Γ b:=by
      intro b hb
      rw [List.flatten_append,List.mem_append] at hb
      rcases hb with hb|hb
      ·exact ⟨hg.lt b hb,hgd b (hf ▸ hb)⟩
      ·exact ⟨rows_lt hr2 b hb,hg2 b hb⟩
     have hs2:=hs.updRow (ver':=vv+1) (o':=s.flat) hk' h2 h3 (h4.imp id fun h b hb=>by rw [h] at hb; injection hb with hb; omega) (.inl rfl) hall
      (fun hfl=>by rw [growF_flat hfl h2]; exact ⟨ownR_nil _ _,fun b hb=>by cases hb⟩)
     refine wp_value (hrun a w w' _ _ v' hxe rfl h1) (put_fin hK' hd hs2 ?_ rfl rfl)
     refine ⟨?_,_,look_self ..,Nat.le_refl _,fun _=>by rw [Asg.setR_hd]⟩
     obtain ⟨ad',cc',css',e1,_⟩:=growF_rows h2
     rw [e1]; rfl
   ·exact h.elim
  ·rename_i t i v ht hi hx hy
   split at h
   ·rename_i d hdat
    split at h
    rotate_left
    ·exact h.elim
    rename_i m hmg
    obtain rfl:=lget_eq hmg
    obtain ⟨hb1,hb2,hK⟩:=h
    by_cases how:(!t.flat && OwnL lm v)=true
    ·rw [how,Bool.or_true,if_pos rfl] at hK
     refine ⟨_,hK,fun p hp=>?_,fun σ Γ a w hs hl hm hn hd K' Q hK'=>?_⟩
     ·rcases List.mem_cons.1 hp with rfl|hp
      ·exact .inl (Nat.le_refl _)
      ·exact .inr (frzU_mem hp)
     simp only [Bool.and_eq_true,Bool.not_eq_true'] at how
     obtain ⟨hnf,how⟩:=how
     have hvr:=op_ev hs hl hm2 hy
     obtain ⟨k2,ver2,rfl⟩:∃ k2 ver2,v=.row k2 ver2:=by
      cases v with
      | row k2 ver2=>exact ⟨k2,ver2,rfl⟩
      | sl _ _=>cases how
      | fx _ _ _=>cases how
      | _=>cases hdat
     have hmv:∀ j ∈ [k2],look σ.mem j=lm j:=fun j hj=>hm j hj
     have how':OwnC σ (.row k2 ver2)=true:=by
      rw [OwnC,ownL_congr (lm:=lm) (fun k' ver' he=>(by cases he; exact hmv k2 (List.mem_singleton.2 rfl)))]; exact how
     have hdat':(AV.row k2 ver2).data (look σ.mem)=some ⟨t,m⟩:=by rw [<-hdat]; exact data_congr fun k' ver' he=>(by cases he; exact hmv k2 (List.mem_singleton.2 rfl))
     obtain ⟨fp,hr,hofp,hhold⟩:=hs.ownRep (t:=.slice t) (cs:=[.row k2 ver2]) (us:=[a.eval y]) ⟨hvr,trivial⟩ ⟨_,rfl,.inl hdat'⟩ (by simp [how']) (by simp [cellRows])
     have hlive:=ownC_live how'
     obtain ⟨ad,cc,css,fps2,hu2,hr2,hsub,hn2,hc2,hfpx⟩:=slice_rows' (p:=t.pos) hr
     have ho2:OwnR c w fps2.flatten:=by
      rcases hfpx with e|⟨b,e⟩
      ·rw [e]; exact ownR_nil _ _
      ·rw [e] at hofp; exact ⟨(List.nodup_cons.1 hofp.1).2,fun b hb=>hofp.2 b (List.mem_cons_of_mem _ hb)⟩
     have hh2:∀ b ∈ fps2.flatten,Holds σ Γ k2 b:=fun b hb=>by
      obtain ⟨k3,hk3,hh⟩:=hhold b (hsub b hb)
      have:k3=k2:=by simpa [cellRows] using hk3
      rwa [this] at hh
     have hf':=hs.frz (ks:=[k2])
     have hcongr:frzU (look σ.mem) [k2]=frzU lm [k2]:=frzU_congr fun j hj=>hmv j hj
     have hfree:∀ b ∈ fps2.flatten,∀ j B,look (frzU lm [k2]++σ.mem) j=some B->¬ B.mut Γ j b/\b ∉ B.ofp Γ j:=fun b hb j B hj=>by
      rw [<-hcongr] at hj
      exact frz_free hs (List.mem_singleton.2 rfl) hlive (hh2 b hb) hj
     rw [hcongr] at hf'
     have hg2:∀ b ∈ fps2.flatten,Gd c (frzU lm [k2]++σ.mem) Γ b:=fun b hb=>⟨(ho2.2 b hb).1.gd,fun ⟨j,B,hj,hmu⟩=>(hfree b hb j B hj).1 hmu⟩
     have hxe:a.eval x=_:=(op_ev hs hl hm1 hx:VRep c σ.mem Γ w _ (a.eval x)).1
     obtain ⟨i',dd,hi1,hi2,hi3,_,_⟩:=hT _ _ ht
     simp only [bts,hi1,Option.map_some,Option.some.injEq] at hi
     subst hi
     have hsz':=t.rp_size
     have hps:=t.pos
     have hnone:look (frzU lm [k2]++σ.mem) nx=none:=by
      have hne:nx ≠ k2:=fun e=>by
       have hl2:=hnx nx (Nat.le_refl _)
       rw [e] at hl2
       simp only [AV.data,hl2] at hdat
       cases hdat
      rw [look_app]
      cases hq:look (frzU lm [k2]) nx with
      | none=>exact hn (nx,_) List.mem_cons_self (by simpa [AV.rows] using hne)
      | some B=>obtain ⟨q,hq1,hq2⟩:=look_mem hq; have:=frzU_mem hq1; rw [hq2] at this; exact absurd (List.mem_singleton.1 this) hne
     obtain ⟨v',w',h1,h2,h3,h4⟩:=run_appendF (P:=P) (A:=t.rp) ty o.type e i' t.zv hu hi1 hi3 (by rw [hi2,hsz']) (by rw [zv_size,hsz']) hps (growF_nil c.base w e) hu2 hr2 hn2 hc2 (by simp only [maxLen,List.length_nil]; omega) (by simpa using hb1) hs.hb (fun b hb=>by simp at hb) (fun b hb=>by simp [Value.ownBlock])
     simp only [List.nil_append] at h2
     have hbel:Below w.heap.size w w':=⟨h3.os,h3.tape,h3.output,h3.size,fun b hb=>h3.block b hb (by simp [Value.ownBlock])⟩
     have hs2:=hf'.newRow (o:=true) hnone hbel h2 (fun b hb=>by
      rcases h4 with h4|h4
      ·rw [h4] at hb; cases hb
      ·rw [h4] at hb; injection hb with hb; omega) (fun b hb=>.inr ⟨rows_lt hr2 b hb,hg2 b hb⟩)
      (fun _=>⟨ownR_frame ho2 fun b hb=>hbel.block b (rows_lt hr2 b hb),fun b hb j B hj=>(hfree b hb j B hj).2⟩)
     refine wp_value (hrun a w w' _ _ v' hxe rfl h1) (put_fin hK' hd hs2 ?_ rfl rfl)
     refine ⟨?_,_,look_self ..,Nat.le_refl _,fun _=>by rw [Asg.setR_hd]⟩
     obtain ⟨ad',cc',css',e1,_⟩:=growF_rows h2
     rw [e1]; rfl
    ·have how':(!t.flat && OwnL lm v)=false:=by simpa using how
     rw [how',Bool.or_false,if_neg (by simp)] at hK
     refine ⟨_,hK,fun p hp=>?_,fun σ Γ a w hs hl hm hn hd K' Q hK'=>?_⟩
     ·simp at hp; subst hp; exact .inl (Nat.le_refl _)
     have hnone:look σ.mem nx=none:=by
      by_cases hin:nx ∈ v.rows
      ·rw [hm nx hin]; exact hnx nx (Nat.le_refl _)
      ·exact hn (nx,_) List.mem_cons_self hin
     obtain ⟨ad,cc,css,fps2,hu2,hr2,hg2,hn2,hc2⟩:=data_rows hs (op_ev hs hl hm2 hy) hm hdat
     have hxe:a.eval x=_:=(op_ev hs hl hm1 hx:VRep c σ.mem Γ w _ (a.eval x)).1
     obtain ⟨i',dd,hi1,hi2,hi3,_,_⟩:=hT _ _ ht
     simp only [bts,hi1,Option.map_some,Option.some.injEq] at hi
     subst hi
     have hsz':=t.rp_size
     have hps:=t.pos
     obtain ⟨v',w',h1,h2,h3,h4⟩:=run_appendF (P:=P) (A:=t.rp) ty o.type e i' t.zv hu hi1 hi3 (by rw [hi2,hsz']) (by rw [zv_size,hsz']) hps (growF_nil c.base w e) hu2 hr2 hn2 hc2 (by simp only [maxLen,List.length_nil]; omega) (by simpa using hb1) hs.hb (fun b hb=>by simp at hb) (fun b hb=>by simp [Value.ownBlock])
     simp only [List.nil_append] at h2
     have hbel:Below w.heap.size w w':=⟨h3.os,h3.tape,h3.output,h3.size,fun b hb=>h3.block b hb (by simp [Value.ownBlock])⟩
     have hs2:=hs.newRow (o:=t.flat) hnone hbel h2 (fun b hb=>by
      rcases h4 with h4|h4
      ·rw [h4] at hb; cases hb
      ·rw [h4] at hb; injection hb with hb; omega) (fun b hb=>.inr ⟨rows_lt hr2 b hb,hg2 b hb⟩)
      (fun hfl=>by rw [growF_flat hfl h2]; exact ⟨ownR_nil _ _,fun b hb=>by cases hb⟩)
     refine wp_value (hrun a w w' _ _ v' hxe rfl h1) (put_fin hK' hd hs2 ?_ rfl rfl)
     refine ⟨?_,_,look_self ..,Nat.le_refl _,fun _=>by rw [Asg.setR_hd]⟩
     obtain ⟨ad',cc',css',e1,_⟩:=growF_rows h2
     rw [e1]; rfl
   ·exact h.elim
  ·exact h.elim
 ·exact h.elim
theorem madeCells_get (z:Array Value) (n i:Nat) (h:i < n):(madeCells z n)[i]? = some (z[i % z.size]!):=by simp [madeCells,h]
theorem flat_replicate {α:Type} (cs:List α) (n i:Nat) (h0:0 < cs.length) (h:i < n * cs.length):(List.replicate n cs).flatten[i]? = cs[i % cs.length]?:=by
 induction n generalizing i with
 | zero=>simp at h
 | succ n ih =>
  rw [List.replicate_succ,List.flatten_cons]
  rcases Nat.lt_or_ge i cs.length with hi|hi
  ·rw [List.getElem?_append_left hi,Nat.mod_eq_of_lt hi]
  ·rw [Nat.succ_mul] at h
   rw [List.getElem?_append_right hi,ih _ (by omega),Nat.mod_eq_sub_mod hi]
theorem aMakeSlice_ok (hT:TabOK P T) {ty:TypeId} {x y:Operand} (ho:o.op=.makeSlice ty x y) (h:aMakeSlice P T lt nx K ty x y):∃ e,K e/\SOK P c lt lm nx o e:=by
 unfold aMakeSlice at h
 split at h
 ·rename_i e hu
  split at h
  ·rename_i t i n m ht hi hx hy
   obtain ⟨h0,hnm,hby,hK⟩:=h
   split at hK
   ·obtain ⟨rfl,hK⟩:=hK
    refine ⟨_,hK,SOK.one (.inl (Nat.le_refl _)) fun σ Γ a w hs hl _ hn=>?_⟩
    obtain ⟨e1,_,o1⟩:=(op_ev hs hl (by simp [ho,Op.operands]) hx:VRep c σ.mem Γ w _ (a.eval x))
    obtain ⟨e2,_,o2⟩:=(op_ev hs hl (by simp [ho,Op.operands]) hy:VRep c σ.mem Γ w _ (a.eval y))
    obtain ⟨i',dd,hi1,hi2,hi3,_,_⟩:=hT _ _ ht
    simp only [bts,hi1,Option.map_some,Option.some.injEq] at hi
    subst hi
    have hrun:=run_make (P:=P) w ty e i' (Ty.slice .int).zv hu hi1 hi3 .i64 .i64 n n h0 hnm hby o2.2
    rw [hi2] at hrun
    have hml:(madeCells (Ty.slice .int).zv.cells (n.toNat * (Ty.slice .int).size)).toList=List.replicate n.toNat (.slice none 0 0):=by
     apply List.ext_getElem?
     intro q
     rw [Array.getElem?_toList,List.getElem?_replicate]
     split
     ·rw [madeCells_get _ _ _ (by show q < n.toNat * 1; omega)]
      show some ((Ty.slice .int).zv.cells[q % (Ty.slice .int).zv.cells.size]!)=_
      rw [show (Ty.slice .int).zv.cells=#[.slice none 0 0] from rfl]
      simp [Nat.mod_one]
     ·exact Array.getElem?_eq_none (by rw [size_madeCells]; show n.toNat * 1<=q; omega)
    have hbx:=hs.addBox (below_alloc w (.cells (madeCells (Ty.slice .int).zv.cells (n.toNat * (Ty.slice .int).size)) e (0,0))) (k:=nx) (hn (by simp)) (b:=w.heap.size) (Nat.le_refl _) heap_at (cs:=List.replicate n.toNat (.sc (.slice none 0 0))) (fun _=>by
     rw [hml]
     have key:∀ (q:Nat) {c:Cx} {M:Mm} {Γ:Asg} {w:World},All2 (CRep c M Γ w) (List.replicate q (.sc (.slice none 0 0))) (List.replicate q (.slice none 0 0)):=by
      intro q
      induction q with
      | zero=>intros; trivial
      | succ q ih=>intros; exact ⟨⟨rfl,rfl,trivial⟩,ih⟩
     exact key _)
    refine ⟨.slice (some ⟨w.heap.size,0,none⟩) n.toNat n.toNat,_,_,.inl (by simp only [execOp,ho,e1,e2,Sem.run_bind,hrun,Result.andThen_ok,Sem.run_pure]),hbx,⟨rfl,_,look_self ..,by show _=Value.slice (some ⟨(Γ.setB nx w.heap.size).β nx,0,none⟩) _ _; rw [Asg.setB_β],by simp only [maxLen]; have:=o2.2; omega⟩⟩
   refine ⟨_,hK,SOK.one (.inl (Nat.le_refl _)) fun σ Γ a w hs hl _ hn=>?_⟩
   obtain ⟨e1,_,o1⟩:=(op_ev hs hl (by simp [ho,Op.operands]) hx:VRep c σ.mem Γ w _ (a.eval x))
   obtain ⟨e2,_,o2⟩:=(op_ev hs hl (by simp [ho,Op.operands]) hy:VRep c σ.mem Γ w _ (a.eval y))
   obtain ⟨i',dd,hi1,hi2,hi3,_,_⟩:=hT _ _ ht
   simp only [bts,hi1,Option.map_some,Option.some.injEq] at hi
   subst hi
   have hrun:=run_make (P:=P) w ty e i' t.zv hu hi1 hi3 .i64 .i64 n m h0 hnm hby o2.2
   rw [hi2] at hrun
   have hp0:=t.pos
   rw [t.rp_size] at hp0
   have hzl:=zc_len t
   have hmul:n.toNat * t.size<=m.toNat * t.size:=Nat.mul_le_mul_right _ (by omega)
   have hcells:madeCells t.zv.cells (m.toNat * t.size)=((List.replicate n.toNat t.zc).flatten++(madeCells t.zv.cells (m.toNat * t.size)).toList.drop (n.toNat * t.size)).toArray:=by
    apply Array.toList_inj.1
    rw [List.toList_toArray]
    apply List.ext_getElem?
    intro q
    have hfl:(List.replicate n.toNat t.zc).flatten.length=n.toNat * t.size:=by simp [hzl]
    rcases Nat.lt_or_ge q (n.toNat * t.size) with hq|hq
    ·rw [List.getElem?_append_left (by omega),flat_replicate _ _ _ (by omega) (by rw [hzl]; exact hq),Array.getElem?_toList,madeCells_get _ _ _ (by omega),zv_cells,hzl]
     have:q % t.size < t.zc.length:=by rw [hzl]; exact Nat.mod_lt _ hp0
     simp [hzl,List.getElem?_eq_getElem this,getElem!_pos,this]
    ·rw [List.getElem?_append_right (by omega),hfl,List.getElem?_drop]
     congr 1; omega
   have hrw:RowsOf t.rp w (List.replicate n.toNat t.zero) (List.replicate n.toNat t.zc) (List.replicate n.toNat []):=by
    refine ⟨by simp,by simp,fun j x hx=>?_⟩
    have hj:j < n.toNat:=by simpa using (List.getElem?_eq_some_iff.1 hx).1
    rw [List.getElem?_replicate,if_pos hj] at hx
    injection hx with hx
    subst hx
    exact ⟨t.zc,[],by rw [List.getElem?_replicate,if_pos hj],by rw [List.getElem?_replicate,if_pos hj],zc_rep w t⟩
   have hgf:=growF_new (base:=c.base) (e:=e) hs.hb hrw (by simp only [maxLen,List.length_replicate]; have:=o2.2; omega) ((madeCells t.zv.cells (m.toNat * t.size)).toList.drop (n.toNat * t.size)) m.toNat (by simp; omega) (by simp only [maxLen]; have:=o2.2; omega)
    (by simp only [List.length_replicate,List.length_drop,Array.length_toList,size_madeCells]; rw [t.rp_size]; omega)
   rw [<-hcells,List.length_replicate] at hgf
   have hfn:(List.replicate n.toNat ([]:List Nat)).flatten=[]:=by simp
   refine ⟨.slice (some ⟨w.heap.size,0,none⟩) n.toNat m.toNat,_,_,.inl (by simp only [execOp,ho,e1,e2,Sem.run_bind,hrun,Result.andThen_ok,Sem.run_pure]),hs.newRow (o:=true) (hn (by simp)) (below_alloc w _) hgf (fun b hb=>by injection hb with hb; subst hb; exact Nat.le_refl _) (fun b hb=>by rw [hfn] at hb; cases hb)
    (fun _=>by rw [hfn]; exact ⟨ownR_nil _ _,fun b hb=>by cases hb⟩),⟨rfl,_,look_self ..,Nat.le_refl _,fun _=>by rw [Asg.setR_hd]⟩⟩
  ·exact h.elim
 ·exact h.elim
theorem evo_rep {σ:St} {Γ:Asg} {a:Act} {w:World} (hs:Sim c σ Γ a w) {x:Option Operand} {z n:Int} (hl:∀ y,x=some y->∀ t,y=.tmp t->look σ.tmps t=lt t) (h:evo lt x z=some n):(x=none/\n=z)\/∃ y,x=some y/\a.eval y=.int .i64 n:=by
 cases x with
 | none=>injection h with h; exact .inl ⟨rfl,h.symm⟩
 | some y =>
  simp only [evo] at h
  split at h
  ·rename_i m hm
   injection h with h
   subst h
   exact .inr ⟨y,rfl,(ev_rep hs (hl y rfl) hm:VRep c σ.mem Γ w _ (a.eval y)).1⟩
  ·cases h
theorem rep_cut {t:Ty} {w:World} {ad:Option Addr} {cc:Nat} {l:List t.den} {fp:List Nat} (h:(Rp.slice t.rp t.pos).rep w [.slice ad l.length cc] l fp) {i j:Nat} (hij:i<=j) (hj:j<=l.length) :
  ∃ fp',(Rp.slice t.rp t.pos).rep w [.slice (if cc=i then ad else ad.map (·.add (i * t.rp.size))) (j - i) (cc - i)] ((l.take j).drop i) fp'/\∀ b ∈ fp',b ∈ fp:=by
 obtain ⟨ad',cc',h1,h2,h3,h4⟩:=h
 injection h1 with h1
 injection h1 with ha _ hcc
 subst ha hcc
 have hlen:((l.take j).drop i).length=j - i:=by rw [List.length_drop,List.length_take]; omega
 by_cases h0:j - i=0
 ·have:(l.take j).drop i=[]:=List.eq_nil_of_length_eq_zero (by omega)
  rw [this]
  exact ⟨[],⟨_,_,by rw [h0]; rfl,by simp,by omega,.inl ⟨rfl,rfl⟩⟩,fun b hb=>by cases hb⟩
 ·rcases h4 with ⟨rfl,_⟩|⟨b,off,fps,hl,ha,hfp,hfl,he⟩
  ·simp at hj; omega
  ·have hne:cc ≠ i:=by omega
   rw [if_neg hne,ha]
   refine ⟨b :: ((fps.take j).drop i).flatten,⟨some ⟨b,off+i * t.rp.size,none⟩,cc - i,by rw [hlen]; simp [addr_add],by omega,by omega,.inr ⟨b,off+i * t.rp.size,(fps.take j).drop i,?_,rfl,rfl,by rw [hlen,List.length_drop,List.length_take]; omega,fun q x hx=>?_⟩⟩,fun b' hb'=>?_⟩
   ·intro hn; rw [hn] at hlen; simp at hlen; omega
   ·have hq:=(List.getElem?_eq_some_iff.1 hx).1
    rw [hlen] at hq
    rw [List.getElem?_drop,List.getElem?_take,if_pos (by omega)] at hx
    obtain ⟨f,cs,hf,hr,hc⟩:=he _ x hx
    refine ⟨f,cs,by rw [List.getElem?_drop,List.getElem?_take,if_pos (by omega)]; exact hf,hr,fun p v hv=>?_⟩
    have:=hc p v hv
    rw [Nat.add_mul] at this
    rw [show off+i * t.rp.size+q * t.rp.size+p=off+(i * t.rp.size+q * t.rp.size)+p by omega]
    exact this
   ·rw [hfp]
    rcases List.mem_cons.1 hb' with rfl|hb'
    ·exact List.mem_cons_self
    ·obtain ⟨f,hf,hbf⟩:=List.mem_flatten.1 hb'
     exact List.mem_cons_of_mem _ (List.mem_flatten.2 ⟨f,List.mem_of_mem_take (List.mem_of_mem_drop hf),hbf⟩)
theorem data_frz {v:AV} {d:Lst} {M:Mm} (hd:v.data lm=some d) (hm:∀ k ∈ v.rows,look M k=lm k):v.data (look (frzU lm v.rows++M))=some d:=by
 cases v with
 | sl t l=>exact hd
 | fx _ t l=>exact hd
 | row k ver =>
  have hk:=hm k (by simp [AV.rows])
  simp only [AV.rows,AV.data,frzU] at hd ⊢
  cases hl:lm k with
  | none=>rw [hl] at hd; cases hd
  | some B =>
   rw [hl] at hd
   simp only [Option.bind_some] at hd ⊢
   cases B with
   | row e t v o l =>
    simp only [Blk.fz,List.nil_append,List.cons_append,look_self,Option.bind_some,Blk.data] at hd ⊢
    exact hd
   | odat t l =>
    simp only [Blk.fz,List.nil_append,List.cons_append,look_self,Option.bind_some,Blk.data] at hd ⊢
    split at hd
    ·rename_i h0; rw [if_pos h0.symm]; exact hd
    ·cases hd
   | froz t v l =>
    simp only [Blk.fz,List.nil_append,hk,hl,Option.bind_some]
    exact hd
   | _=>cases hd
 | _=>cases hd
theorem slice_run {ty e:TypeId} {x:Operand} {lo hi:Option Operand} {a:Act} {w:World} {σ:St} {Γ:Asg} {s t:Ty} (hT:TyOK P e t) (hss:t.size=s.size) (ho:o.op=.slice ty x lo hi none) (hu:P.underlying ty=some (.slice e)) (hs:Sim c σ Γ a w) (hl:∀ t ∈ opnds o,look σ.tmps t=lt t)
  {ad:Option Addr} {n cc:Nat} (hva:a.eval x=.slice ad n cc) (hlc:n<=cc) {za zb:Int} (hza:evo lt lo 0=some za) (hzb:evo lt hi n=some zb) (h0:0<=za) (hab:za<=zb) (hbl:zb<=n) :
  (execOp a.eval o).run P w=.ok (.value (.slice (if cc=za.toNat then ad else ad.map (·.add (za.toNat * s.rp.size))) (zb.toNat - za.toNat) (cc - za.toNat))) w:=by
 have hsz:=hT.sizeOf w
 have hlo:=evo_rep hs (x:=lo) (fun y hy t e=>hl t (mem_opnds (by simp [ho,Op.operands,hy]) e)) hza
 have hhi:=evo_rep hs (x:=hi) (fun y hy t e=>hl t (mem_opnds (by simp [ho,Op.operands,hy]) e)) hzb
 have hb1:zb<=(cc:Int):=by omega
 have hb2:zb.toNat<=n:=by omega
 have hsz':s.rp.size=t.size:=by rw [s.rp_size,hss]
 have c1:∀ code,(Instr.sliceBound (.int .i64 zb) cc code).run P w=.ok zb.toNat w:=fun code=>run_sliceBound (P:=P) (w:=w) .i64 zb cc code (by omega) hb1
 have c2:∀ code,(Instr.sliceBound (.int .i64 za) zb.toNat code).run P w=.ok za.toNat w:=fun code=>run_sliceBound (P:=P) (w:=w) .i64 za _ code h0 (by omega)
 have key:∀ (ol oh:Option Value),(ol=none/\za=0\/ol=some (.int .i64 za))->(oh=none/\zb=n\/oh=some (.int .i64 zb))->(Instr.sliceBounds true n cc ol oh none).run P w=.ok (za.toNat,zb.toNat,cc) w:=by
  intro ol oh h1 h2
  have hh:zb=n->(n:Int).toNat=zb.toNat:=fun h=>by rw [h]
  rcases h1 with ⟨rfl,rfl⟩|rfl<;>rcases h2 with ⟨rfl,hz⟩|rfl
  ·simp [Instr.sliceBounds,hz]
  ·simp [Instr.sliceBounds,c1]
  ·have hz2:n=zb.toNat:=by omega
   simp only [Instr.sliceBounds,Sem.run_bind,Sem.run_pure,Result.andThen_ok]
   rw [hz2]
   simp [c2]
  ·simp [Instr.sliceBounds,c1,c2]
 have hkk:=key (lo.map a.eval) (hi.map a.eval) (by rcases hlo with ⟨rfl,h⟩|⟨y,rfl,h⟩<;>simp_all) (by rcases hhi with ⟨rfl,h⟩|⟨y,rfl,h⟩<;>simp_all)
 simp only [execOp,ho,hva,Instr.sliceAt,Sem.run_bind,run_underlying hu,Result.andThen_ok,Instr.slice,Option.map_none,hkk,hsz,hsz',Sem.run_pure]
theorem growF_take {t:Ty} {base:Nat} {w:World} {e:TypeId} {ad:Option Addr} {cc m:Nat} {l:List t.den} {fps:List (List Nat)} (h:GrowF t.rp base w e (.slice ad l.length cc) l fps) (hm:m<=l.length) :
  GrowF t.rp base w e (.slice ad m cc) (l.take m) (fps.take m):=by
 obtain ⟨xs,⟨h1,h2⟩,h3,h4⟩:=h
 have hmul:m * t.rp.size<=l.length * t.rp.size:=Nat.mul_le_mul_right _ hm
 refine ⟨xs.take (m * t.rp.size),⟨by rw [List.length_take,List.length_take]; rw [Nat.min_eq_left hm]; omega,?_⟩,by rw [List.length_take,List.length_take,h3],fun i x hx=>?_⟩
 ·rw [List.length_take,Nat.min_eq_left hm]
  rcases h2 with ⟨h2,h5⟩|⟨g,cap,cur,e1,hb,hg,hc,hcm,hcs,htk⟩
  ·injection h2 with e1 e2 e3
   subst e1 e3
   have:m=0:=by omega
   subst this
   exact .inl ⟨rfl,rfl⟩
  ·injection e1 with e1 e2 e3
   subst e1 e3
   exact .inr ⟨g,cc,cur,rfl,hb,hg,by omega,hcm,hcs,by rw [<-htk,List.take_take,Nat.min_eq_left hmul]⟩
 ·rw [List.getElem?_take] at hx
  split at hx
  ·rename_i him
   obtain ⟨f,cs,hf,hr,hc⟩:=h4 i x hx
   refine ⟨f,cs,by rw [List.getElem?_take,if_pos him]; exact hf,hr,fun j d hd=>?_⟩
   have hj:j < t.rp.size:=by have:=t.rp.len hr; have:=(List.getElem?_eq_some_iff.1 hd).1; omega
   have:(i+1) * t.rp.size<=m * t.rp.size:=Nat.mul_le_mul_right _ him
   rw [List.getElem?_take,if_pos (by rw [Nat.add_mul] at this; omega)]
   exact hc j d hd
  ·cases hx
theorem aSlice_ok (hT:TabOK P T) {ty:TypeId} {x:Operand} {lo hi mx:Option Operand} (ho:o.op=.slice ty x lo hi mx) (h:aSlice P T lt lm K ty x lo hi mx):∃ e,K e/\SOK P c lt lm nx o e:=by
 unfold aSlice at h
 split at h
 ·rename_i e v hu hx
  split at h
  ·rename_i t s l ht hdat
   split at h
   ·rename_i za zb hza hzb
    obtain ⟨rfl,hss,h0,hab,hbl,hK⟩:=h
    have hK':K ⟨.sl s ((l.take zb.toNat).drop za.toNat),frzU lm v.rows,v.rows⟩\/∃ (k ver:Nat) (e:TypeId) (o:Bool),v=.row k ver/\za=0/\lm k=some (.row e s ver o l)/\K ⟨.row k (ver+1),[(k,.row e s (ver+1) s.flat (l.take zb.toNat))],[k]⟩:=by
     cases v with
     | row k ver =>
      rcases hK with hK|⟨hz,e,o,h1,h2⟩
      ·exact .inl hK
      ·exact .inr ⟨k,ver,e,o,rfl,hz,h1,h2⟩
     | _=>exact .inl hK
    clear hK
    rcases hK' with hK|⟨k,ver,te,oo,rfl,rfl,hk,hK⟩
    ·refine ⟨_,hK,fun p hp=>.inr (frzU_mem hp),fun σ Γ a w hs hl hm hn hd K' Q hK'=>?_⟩
     have hf':=hs.frz (ks:=v.rows)
     have hcongr:frzU (look σ.mem) v.rows=frzU lm v.rows:=frzU_congr fun k hk=>hm k hk
     rw [hcongr] at hf'
     have hv:=op_ev hf' hl (x:=x) (by simp [ho,Op.operands]) hx
     have hd':v.data (look (frzU lm v.rows++σ.mem))=some ⟨s,l⟩:=data_frz hdat hm
     obtain ⟨fp,hr,_,hgd⟩:=hf'.sliceRep (vrep_crep_data hv hdat) hd'
     obtain ⟨ad,cc,hva,hlc,_⟩:=slice_lt hr
     rw [hva] at hr
     obtain ⟨fp',hr',hsub⟩:=rep_cut hr (i:=za.toNat) (j:=zb.toNat) (by omega) (by omega)
     have hrun:=slice_run (s:=s) (hT e t ht) hss ho hu hs hl hva hlc hza hzb h0 hab hbl
     refine wp_value hrun (put_fin hK' hd hf' ?_ rfl rfl)
     refine ⟨fp',hr',fun b hb=>hgd (fun k ver e e' t' v' o' l' hk=>?_) b (hsub b hb)⟩
     subst e
     rw [<-hcongr] at hk
     exact (frz_no hk).1 (by simp [AV.rows])
    ·refine ⟨_,hK,fun p hp=>?_,fun σ Γ a w hs hl hm hn hd K' Q hK'=>?_⟩
     ·rw [List.mem_singleton] at hp; subst hp; exact .inr (List.mem_singleton.2 rfl)
     have hk':look σ.mem k=some (.row te s ver oo l):=(hm k (List.mem_singleton.2 rfl)).trans hk
     obtain ⟨h1,B,hB,hh⟩:=(op_ev hs hl (x:=x) (by simp [ho,Op.operands]) hx:VRep c σ.mem Γ w (.row k ver) (a.eval x))
     rw [hk'] at hB; injection hB with hB; subst hB
     have hu2:a.eval x=Γ.hd k:=hh.2 rfl
     obtain ⟨fps,hg,hf,hgds,_⟩:=hs.mm k _ hk'
     have hsh:∃ ad cc,Γ.hd k=.slice ad l.length cc/\l.length<=cc:=by
      obtain ⟨xs,⟨_,h2⟩,_⟩:=hg.1
      rcases h2 with ⟨h2,h5⟩|⟨g,cap,cur,e1,hb,hg,hc,_⟩
      ·exact ⟨none,0,by rw [h2,h5],by omega⟩
      ·exact ⟨_,cap,e1,hc⟩
     obtain ⟨ad,cc,hva,hlc⟩:=hsh
     rw [hva] at hu2
     have hrun:=slice_run (s:=s) (hT e t ht) hss ho hu hs hl hu2 hlc hza hzb (Int.le_refl _) hab hbl
     have he:(if cc=(0:Int).toNat then ad else ad.map (·.add ((0:Int).toNat * s.rp.size)))=ad:=by
      split
      ·rfl
      ·cases ad with
       | none=>rfl
       | some q=>simp [Addr.add]
     rw [he,show zb.toNat - (0:Int).toNat=zb.toNat by simp,show cc - (0:Int).toNat=cc by simp] at hrun
     have hg2:=hg.1
     rw [hva] at hg2
     have hgt:=growF_take hg2 (m:=zb.toNat) (by omega)
     have hs2:=hs.updRow (o':=s.flat) (ver':=ver+1) hk' hgt (w':=w) ⟨rfl,rfl,rfl,Nat.le_refl _,fun _ _ _=>rfl⟩ (.inl (by rw [hva]; cases ad<;>rfl)) (.inl rfl)
      (fun b hb=>by
       obtain ⟨f,hfm,hbf⟩:=List.mem_flatten.1 hb
       have hb':b ∈ fps.flatten:=List.mem_flatten.2 ⟨f,List.mem_of_mem_take hfm,hbf⟩
       exact ⟨hg.lt b hb',hgds b (hf ▸ hb')⟩)
      (fun hfl=>by rw [growF_flat hfl hgt]; exact ⟨ownR_nil _ _,fun b hb=>by cases hb⟩)
     refine wp_value hrun (put_fin hK' hd hs2 ⟨rfl,_,look_self ..,Nat.le_refl _,fun _=>by rw [Asg.setR_hd]⟩ rfl rfl)
   ·exact h.elim
  ·exact h.elim
 ·exact h.elim
theorem growF_set {t:Ty} {base:Nat} {w:World} {e:TypeId} {g cap:Nat} {l:List t.den} {fps:List (List Nat)} (h:GrowF t.rp base w e (.slice (some ⟨g,0,none⟩) l.length cap) l fps) {i:Nat} (hi:i < l.length) {x:t.den} {cs:List Value} {f:List Nat} (hr:t.rp.rep w cs x f)
  (hf:∀ b ∈ f,b ≠ g) (hfs:∀ b ∈ fps.flatten,b ≠ g):GrowF t.rp base (putCells w g (i * t.rp.size) cs) e (.slice (some ⟨g,0,none⟩) l.length cap) (l.set i x) (fps.set i f):=by
 obtain ⟨xs,ho,hfl,he⟩:=h
 obtain ⟨hxl,h2⟩:=ho
 rcases h2 with ⟨h2,_⟩|⟨g',cap',cur,hv,hbg,hg,h1',h2',h3',h4'⟩
 ·cases h2
 injection hv with hv _ hcap
 injection hv with hv; injection hv with hv
 subst hv hcap
 have hcl:=t.rp.len hr
 have hmul:(i+1) * t.rp.size<=l.length * t.rp.size:=Nat.mul_le_mul_right _ hi
 have hmul2:l.length * t.rp.size<=cap * t.rp.size:=Nat.mul_le_mul_right _ h1'
 have hs1:(i+1) * t.rp.size=i * t.rp.size+t.rp.size:=Nat.succ_mul _ _
 obtain ⟨cur',g1,g2,g3,g4⟩:=putCells_row g e cs w (i * t.rp.size) cur hg (by omega)
 have hoth:∀ b,b ≠ g->(putCells w g (i * t.rp.size) cs).heap[b]? = w.heap[b]?:=fun b hb=>putCells_other g cs w _ b hb
 refine ⟨cur'.toList.take (l.length * t.rp.size),⟨by rw [List.length_take,List.length_set,show cur'.toList.length=cur'.size from Array.length_toList,g2,h3']; exact Nat.min_eq_left hmul2,.inr ⟨g,cap,cur',by rw [List.length_set],hbg,g1,by rw [List.length_set]; exact h1',h2',g2.trans h3',by rw [List.length_set]⟩⟩,by simp [hfl],fun j y hy=>?_⟩
 by_cases hij:i=j
 ·subst hij
  rw [List.getElem?_set_self hi] at hy
  injection hy with hy
  subst hy
  refine ⟨f,cs,by rw [List.getElem?_set_self (by omega)],t.rp.frame hr fun b hb=>hoth b (hf b hb),fun q d hd=>?_⟩
  have hq:=(List.getElem?_eq_some_iff.1 hd).1
  rw [List.getElem?_take,if_pos (by omega),Array.getElem?_toList]
  exact g3 q d hd
 ·rw [List.getElem?_set_ne hij] at hy
  obtain ⟨f',cs',hf',hr',hc'⟩:=he j y hy
  have hj:=(List.getElem?_eq_some_iff.1 hy).1
  refine ⟨f',cs',by rw [List.getElem?_set_ne hij]; exact hf',t.rp.frame hr' fun b hb=>hoth b (hfs b (List.mem_flatten.2 ⟨f',List.mem_of_getElem? hf',hb⟩)),fun q d hd=>?_⟩
  have hq:q < t.rp.size:=by rw [<-t.rp.len hr']; exact (List.getElem?_eq_some_iff.1 hd).1
  have hmj:(j+1) * t.rp.size<=l.length * t.rp.size:=Nat.mul_le_mul_right _ hj
  have hsj:(j+1) * t.rp.size=j * t.rp.size+t.rp.size:=Nat.succ_mul _ _
  have:=hc' q d hd
  rw [<-h4',List.getElem?_take,if_pos (by omega),Array.getElem?_toList] at this
  rw [List.getElem?_take,if_pos (by omega),Array.getElem?_toList,g4 _ ?_]
  ·exact this
  ·rcases Nat.lt_or_gt_of_ne hij with hlt|hlt
   ·have:=Nat.mul_le_mul_right t.rp.size (show i+1<=j from hlt); omega
   ·have:=Nat.mul_le_mul_right t.rp.size (show j+1<=i from hlt); omega
theorem nodup_set {fp:List Nat}:∀ {fps:List (List Nat)} {i:Nat},fps.flatten.Nodup->fp.Nodup->(∀ b ∈ fp,b ∉ fps.flatten)->(fps.set i fp).flatten.Nodup
 | [],_,_,_,_=>by simp
 | f :: fps,0,h,hf,hd=>by
  rw [List.flatten_cons,List.nodup_append] at h
  rw [List.set_cons_zero,List.flatten_cons,List.nodup_append]
  exact ⟨hf,h.2.1,fun b hb b' hb' e=>hd b hb (by rw [List.flatten_cons,List.mem_append,e]; exact .inr hb')⟩
 | f :: fps,i+1,h,hf,hd=>by
  rw [List.flatten_cons,List.nodup_append] at h
  rw [List.set_cons_succ,List.flatten_cons,List.nodup_append]
  refine ⟨h.1,nodup_set h.2.1 hf fun b hb hb'=>hd b hb (by rw [List.flatten_cons,List.mem_append]; exact .inr hb'),fun b hb b' hb' e=>?_⟩
  subst e
  obtain ⟨g,hg,hbg⟩:=List.mem_flatten.1 hb'
  rcases List.mem_or_eq_of_mem_set hg with hg|rfl
  ·exact h.2.2 b hb b (List.mem_flatten.2 ⟨g,hg,hbg⟩) rfl
  ·exact hd b hbg (by rw [List.flatten_cons,List.mem_append]; exact .inl hb)
theorem aStoreRow_ok (hT:TabOK P T) {ty:TypeId} {x y:Operand} (ho:o.op=.store ty x y) (h:aStoreRow T lt lm K ty x y):∃ e,K e/\SOK P c lt lm nx o e:=by
 unfold aStoreRow at h
 split at h
 ·rename_i t k ver i off v ht hx hy
  split at h
  ·rename_i e s vv oo l hk
   obtain ⟨rfl,rfl,hss,hi,hok,hkv,h⟩:=h
   split at h
   rotate_left
   ·exact h.elim
   rename_i x' hx'
   have his:=rdC_is hx'
   have hK:=h
   refine ⟨_,hK,fun p hp=>?_,fun σ Γ a w hs hl hm hn hd K' Q hK'=>?_⟩
   ·rcases List.mem_cons.1 hp with rfl|hp
    ·exact .inr List.mem_cons_self
    ·exact .inr (List.mem_cons_of_mem _ (frzU_mem hp))
   have hmr:∀ j ∈ v.rows,look σ.mem j=lm j:=fun j hj=>hm j (List.mem_cons_of_mem _ hj)
   have hf':=hs.frz (ks:=v.rows)
   have hcongr:frzU (look σ.mem) v.rows=frzU lm v.rows:=frzU_congr fun k hk=>hmr k hk
   rw [hcongr] at hf'
   have hk0:=(hm k List.mem_cons_self).trans hk
   have hk':look (frzU lm v.rows++σ.mem) k=some (.row e s vv oo l):=by
    have:look (frzU lm v.rows) k=none:=by
     cases hq:look (frzU lm v.rows) k with
     | none=>rfl
     | some B=>obtain ⟨q,hq1,hq2⟩:=look_mem hq; exact absurd (hq2 ▸ frzU_mem hq1) hkv
    rw [look_app,this,hk0]; rfl
   have hvr:=op_ev hf' hl (x:=y) (by simp [ho,Op.operands]) hy
   have hvc:=hvr.cells hok
   have hrows:∀ k' ver',AV.row k' ver' ∈ cellsOf v->k' ∈ v.rows:=by
    intro k' ver' hkk
    cases v with
    | agg cs=>exact mem_cellRows hkk
    | row k2 v2 =>
     have:AV.row k' ver'=.row k2 v2:=List.mem_singleton.1 hkk
     injection this with e1 e2
     simp [AV.rows,e1]
    | _=>have:=List.mem_singleton.1 hkk; cases this
   have his':Is (look (frzU lm v.rows++σ.mem)) s x' (cellsOf v):=by
    refine Is_congr (fun j hj=>?_) his
    obtain ⟨q,hq1,hq2⟩:=List.mem_flatMap.1 hj
    have hjr:j ∈ v.rows:=by
     cases q<;>simp at hq2
     subst hq2
     exact hrows _ _ hq1
    show look (frzU lm v.rows++σ.mem) j=(look (frzU lm v.rows) j).or (lm j)
    rw [look_app,hmr j hjr]
   have hcore:∃ fp,s.rp.rep w (a.eval y).cells.toList x' fp/\(∀ b ∈ fp,Gd c (frzU lm v.rows++σ.mem) Γ b) ∧
     (ownV lm [v]=true->OwnR c w fp/\∀ b ∈ fp,∀ j B,look (frzU lm v.rows++σ.mem) j=some B->b ∉ B.ofp Γ j):=by
    by_cases hov:ownV lm [v]=true
    ·have hc0:=(op_ev hs hl (x:=y) (by simp [ho,Op.operands]) hy:VRep c σ.mem Γ w v (a.eval y)).cells hok
     have hovL:∀ u ∈ cellsOf v,OwnL lm u=true:=by
      simp only [ownV,Bool.and_eq_true] at hov
      exact fun u hu=>List.all_eq_true.1 (List.all_eq_true.1 hov.1 v (by simp)) u hu
     rw [<-ownV_congr (lm:=lm) (lm':=look σ.mem) (by simp [hok]) (fun k hk=>hmr k (by simpa using hk))] at hov
     have hov2:=hov
     simp only [ownV,Bool.and_eq_true,decide_eq_true_eq,List.all_cons,List.all_nil,Bool.and_true,List.flatMap_cons,List.flatMap_nil,List.append_nil] at hov2
     have hi1:Is (look σ.mem) s x' (cellsOf v):=Is_congr (fun j hj=>by
       rw [rows_cells hok] at hj
       exact hmr j hj) (Is_data (fun u hu=>(data_lmF lm _ false u (own_nm (hovL u hu))).symm) his)
     obtain ⟨fp,r1,r2,r3⟩:=ownV_cells hs hc0 hi1 hov2.1 hov2.2
     have hfree:∀ b ∈ fp,∀ j B,look (frzU lm v.rows++σ.mem) j=some B->¬ B.mut Γ j b/\b ∉ B.ofp Γ j:=by
      intro b hb j B hj
      obtain ⟨k,hk,hh,hlv⟩:=r3 b hb
      rw [rows_cells hok] at hk
      rw [<-hcongr] at hj
      exact frz_free hs hk hlv hh hj
     exact ⟨fp,r1,fun b hb=>⟨(r2.2 b hb).1.gd,fun ⟨j,B,hj,hmu⟩=>(hfree b hb j B hj).1 hmu⟩,fun _=>⟨r2,fun b hb j B hj=>(hfree b hb j B hj).2⟩⟩
    ·obtain ⟨fp,hr,_,hgd⟩:=hf'.isRep hvc his'
     have hgd:=hgd fun k' ver' hkk e t v' o' l' hrow=>by
      rw [<-hcongr] at hrow
      exact (frz_no hrow).1 (hrows k' ver' hkk)
     exact ⟨fp,hr,hgd,fun h=>absurd h hov⟩
   obtain ⟨fp,hr,hgd,hown⟩:=hcore
   obtain ⟨fps,hg,hf,hgds,hog⟩:=hf'.mm k _ hk'
   obtain ⟨_,B,hB,hp⟩:=(op_ev hf' hl (x:=x) (by simp [ho,Op.operands]) hx:VRep c _ Γ w _ (a.eval x))
   rw [hk'] at hB; injection hB with hB; subst hB
   obtain ⟨_,hp⟩:=hp e s vv oo l rfl
   obtain ⟨g,n,cap,hhd,hpt⟩:=hp rfl
   have hnl:n=l.length:=by
    obtain ⟨_,_,_,e1,_⟩:=growF_rows hg.1
    rw [hhd] at e1; injection e1
   subst hnl
   rw [hhd] at hg
   have hmutg:Mut (frzU lm v.rows++σ.mem) Γ g:=⟨k,_,hk',by show (Γ.hd k).ownBlock=some g; rw [hhd]; rfl⟩
   have hng:∀ b,Gd c (frzU lm v.rows++σ.mem) Γ b->b ≠ g:=fun b hb e=>hb.2 (e ▸ hmutg)
   have hset:=growF_set hg.1 hi hr (fun b hb=>hng b (hgd b hb)) (fun b hb=>hng b (hgds b (hf ▸ hb)))
   have hgr:w.grownBy (putCells w g (i * s.rp.size) (a.eval y).cells.toList) (Γ.hd k).ownBlock:=by
    have hb:=putCells_below (B:=0) (w0:=w) g (a.eval y).cells.toList w (i * s.rp.size) (Below.refl _ _) (Nat.zero_le _)
    exact ⟨hb.os,hb.tape,hb.output,hb.size,fun b _ hne=>putCells_other _ _ _ _ _ (fun e=>hne (by rw [hhd,e]; rfl))⟩
   have hall:∀ b ∈ (fps.set i fp).flatten,b < w.heap.size/\Gd c (frzU lm v.rows++σ.mem) Γ b:=by
    intro b hb
    obtain ⟨f,hfm,hbf⟩:=List.mem_flatten.1 hb
    rcases List.mem_or_eq_of_mem_set hfm with hfm|rfl
    ·have:b ∈ fps.flatten:=List.mem_flatten.2 ⟨f,hfm,hbf⟩
     exact ⟨hg.lt b this,hgds b (hf ▸ this)⟩
    ·exact ⟨s.rp.lt hr b hbf,hgd b hbf⟩
   have hs2:=hf'.updRow (v':=.slice (some ⟨g,0,none⟩) l.length cap) (ver':=vv) (o':=s.flat || (oo && ownV lm [v])) hk' hset hgr (.inl (by rw [hhd])) (.inr ⟨rfl,hhd.symm⟩) hall
    (fun hfl=>by
     by_cases hfs:s.flat=true
     ·rw [growF_flat hfs hset]; exact ⟨ownR_nil _ _,fun b hb=>by cases hb⟩
     simp only [Bool.not_eq_true] at hfs
     rw [hfs,Bool.false_or,Bool.and_eq_true] at hfl
     obtain ⟨rfl,hov⟩:=hfl
     obtain ⟨hw1,hw2⟩:=hown hov
     have hw0:=hog rfl
     rw [hf] at hw0
     refine ⟨ownR_frame (w:=w) ⟨nodup_set hw0.1 hw1.1 fun b hb hb'=>hw2 b hb k _ hk' (by simp only [Blk.ofp]; rw [hf]; exact hb'),fun b hb=>?_⟩ fun b hb=>putCells_other _ _ _ _ _ (hng b (hall b hb).2),fun b hb j B hjk hj=>?_⟩
     ·obtain ⟨f,hfm,hbf⟩:=List.mem_flatten.1 hb
      rcases List.mem_or_eq_of_mem_set hfm with hfm|rfl
      ·exact hw0.2 b (List.mem_flatten.2 ⟨f,hfm,hbf⟩)
      ·exact hw1.2 b hbf
     ·obtain ⟨f,hfm,hbf⟩:=List.mem_flatten.1 hb
      rcases List.mem_or_eq_of_mem_set hfm with hfm|rfl
      ·exact hf'.disj k j _ B b hk' hj (Ne.symm hjk) (by simp only [Blk.ofp]; rw [hf]; exact List.mem_flatten.2 ⟨f,hfm,hbf⟩)
      ·exact hw2 b hbf j B hj)
   have hrun:(execOp a.eval o).run P w=.ok .skip (putCells w g (i * s.rp.size) (a.eval y).cells.toList):=by
    obtain ⟨xs,ho2,_,_⟩:=hg.1
    rcases ho2.2 with ⟨h2,_⟩|⟨g',cap',cur,hv,hbg,hgg,h1',h2',h3',h4'⟩
    ·cases h2
    injection hv with hv _ hcap
    injection hv with hv; injection hv with hv
    subst hv hcap
    have hcl:=s.rp.len hr
    have hmul:(i+1) * s.rp.size<=l.length * s.rp.size:=Nat.mul_le_mul_right _ hi
    have hmul2:l.length * s.rp.size<=cap * s.rp.size:=Nat.mul_le_mul_right _ h1'
    have hs1:(i+1) * s.rp.size=i * s.rp.size+s.rp.size:=Nat.succ_mul _ _
    have hst:=run_storeCells' (P:=P) g (a.eval y).cells.toList 0 (i * s.rp.size) w (fun j hj=>⟨cur[i * s.rp.size+j]'(by omega),by rw [cell_of_row w _ _ cur e (0,0) hgg,Nat.add_zero,Array.getElem?_eq_getElem]⟩) (fun oo=>frozen_of_row w _ oo cur e hgg) (s.rp.one hr)
    have hsz:(a.eval y).cells.size=t.size:=by
     have:=s.rp_size
     simp only [Array.length_toList] at hcl; omega
    rw [Nat.add_zero] at hpt
    simp only [execOp,ho,hpt,Instr.storeAt,Instr.sureAddr,storeVar,Sem.run_bind,Sem.run_pure,Result.andThen_ok,(hT ty t ht).sizeOf,hsz,ne_eq,not_true_eq_false,if_false]
    rw [hst]; rfl
   exact wp_skip' hrun (put_fin (u:=undef) hK' hd hs2 trivial rfl rfl)
  ·exact h.elim
 ·exact h.elim
def NilW (K:Eff->Prop) (p:Prop) (rd:List Nat) (neg:Bool):Prop:=(¬ p/\K ⟨.sc (.bool neg),[],rd⟩)\/K ⟨if neg then .nb True p else .nb p True,[],rd⟩
def aNil (P:Program) (lt:Nat->Option AV) (lm:Nat->Option Blk) (K:Eff->Prop) (op:BinOp) (ty:TypeId) (x:Operand):Prop :=
 isSl (P.underlying ty)=true ∧
 match ev lt x with
 | some (.sc (.slice none 0 0)) =>
  match op with
  | .eql=>K (.val (.sc (.bool true)))
  | .neq=>K (.val (.sc (.bool false)))
  | _=>False
 | some v =>
  match v.data lm with
  | some ⟨_,l⟩ =>
   match op with
   | .eql=>NilW K (l=[]) v.rows false
   | .neq=>NilW K (l=[]) v.rows true
   | _=>False
  | none=>False
 | none=>False
theorem nil_guard {ty e:TypeId} {op:BinOp} {x:Operand} {a:Option Addr} {n c0:Nat} {w:World} (hu:P.underlying ty=some (.slice e)):(eqGuard op ty x (.const (.slice none 0 0)) (.slice a n c0) (.slice none 0 0)).run P w=.ok () w:=by
 cases op<;>simp [eqGuard,run_underlying hu,Program.eqGuardType,hu]
 all_goals (split<;>simp_all)
theorem aNil_ok {op:BinOp} {ty ty2:TypeId} {x:Operand} (ho:o.op=.binOp op ty x (.const (.slice none 0 0)) ty2) (h:aNil P lt lm K op ty x):∃ e,K e/\SOK P c lt lm nx o e:=by
 unfold aNil at h
 obtain ⟨hsl,h⟩:=h
 obtain ⟨el,hu⟩:=isSl_ex hsl
 have hrun:∀ (ac:Act) (w:World) (a:Option Addr) (n c0:Nat) (b:Bool),ac.eval x=.slice a n c0->(op=.eql/\b=a.isNone\/op=.neq/\b=!a.isNone)->(execOp ac.eval o).run P w=.ok (.value (.bool b)) w:=by
  intro ac w a n c0 b hx hb
  have hc:ac.eval (.const (.slice none 0 0))=.slice none 0 0:=rfl
  rcases hb with ⟨rfl,rfl⟩|⟨rfl,rfl⟩
  ·simp only [execOp,ho,hx,hc,Sem.run_bind,nil_guard hu,Result.andThen_ok,binOp,run_equal_slice_nil w ty el a n c0 hu,Sem.run_pure]
  ·simp only [execOp,ho,hx,hc,Sem.run_bind,nil_guard hu,Result.andThen_ok,run_neq_slice_nil w ty el a n c0 hu,Sem.run_pure]
 split at h
 ·rename_i hx
  split at h
  ·refine ⟨_,h,SOK.pure fun σ Γ ac w hs hl _=>⟨.bool true,?_,rfl,rfl,trivial⟩⟩
   have e1:ac.eval x=_:=(op_ev hs hl (by simp [ho,Op.operands]) hx:VRep c σ.mem Γ w _ (ac.eval x)).1
   exact hrun ac w none 0 0 true e1 (.inl ⟨rfl,rfl⟩)
  ·refine ⟨_,h,SOK.pure fun σ Γ ac w hs hl _=>⟨.bool false,?_,rfl,rfl,trivial⟩⟩
   have e1:ac.eval x=_:=(op_ev hs hl (by simp [ho,Op.operands]) hx:VRep c σ.mem Γ w _ (ac.eval x)).1
   exact hrun ac w none 0 0 false e1 (.inr ⟨rfl,rfl⟩)
  ·exact h.elim
 ·rename_i v hnot hx
  split at h
  ·rename_i t l hd
   have key:∀ (σ:St) (Γ:Asg) (ac:Act) (w:World),Sim c σ Γ ac w->(∀ t ∈ opnds o,look σ.tmps t=lt t)->(∀ k ∈ v.rows,look σ.mem k=lm k)->∃ ad cc,ac.eval x=.slice ad l.length cc/\(ad=none->l=[]):=by
    intro σ Γ ac w hs hl hm
    obtain ⟨ad,cc,css,fps,h1,_,_,h4,_⟩:=data_rows hs (op_ev hs hl (by simp [ho,Op.operands]) hx) hm hd
    exact ⟨ad,cc,h1,h4⟩
   split at h
   ·rcases h with ⟨hp,hK⟩|hK
    ·refine ⟨_,hK,SOK.pure fun σ Γ ac w hs hl hm=>?_⟩
     obtain ⟨ad,cc,h1,h2⟩:=key σ Γ ac w hs hl hm
     cases ad with
     | none=>exact absurd (h2 rfl) hp
     | some a=>exact ⟨.bool false,hrun ac w _ _ _ _ h1 (.inl ⟨rfl,rfl⟩),rfl,rfl,trivial⟩
    ·refine ⟨_,hK,SOK.pure fun σ Γ ac w hs hl hm=>?_⟩
     obtain ⟨ad,cc,h1,h2⟩:=key σ Γ ac w hs hl hm
     refine ⟨.bool ad.isNone,hrun ac w _ _ _ _ h1 (.inl ⟨rfl,rfl⟩),_,rfl,fun hb=>?_,fun _=>trivial⟩
     cases ad with
     | none=>exact h2 rfl
     | some a=>cases hb
   ·rcases h with ⟨hp,hK⟩|hK
    ·refine ⟨_,hK,SOK.pure fun σ Γ ac w hs hl hm=>?_⟩
     obtain ⟨ad,cc,h1,h2⟩:=key σ Γ ac w hs hl hm
     cases ad with
     | none=>exact absurd (h2 rfl) hp
     | some a=>exact ⟨.bool true,hrun ac w _ _ _ _ h1 (.inr ⟨rfl,rfl⟩),rfl,rfl,trivial⟩
    ·refine ⟨_,hK,SOK.pure fun σ Γ ac w hs hl hm=>?_⟩
     obtain ⟨ad,cc,h1,h2⟩:=key σ Γ ac w hs hl hm
     refine ⟨.bool (!ad.isNone),hrun ac w _ _ _ _ h1 (.inr ⟨rfl,rfl⟩),_,rfl,fun _=>trivial,fun hb=>?_⟩
     cases ad with
     | none=>exact h2 rfl
     | some a=>cases hb
   ·exact h.elim
  ·exact h.elim
 ·exact h.elim
theorem evs2 {σ:St} {Γ:Asg} {ac:Act} {w:World} (hs:Sim c σ Γ ac w) {xs:List Operand} {u v:Value} (hl:∀ x ∈ xs,∀ t,x=.tmp t->look σ.tmps t=lt t) (h:evs lt xs=some [.sc u,.sc v]):xs.map ac.eval=[u,v]/\okv u/\okv v:=by
 have h2:=evs_rep hs hl h (by rfl)
 match xs,h2 with
 | [x,y],⟨h1,h2,_⟩=>exact ⟨by rw [List.map_cons,List.map_cons,h1.1,h2.1]; rfl,h1.2.2,h2.2.2⟩
theorem aMin_ok {xs:Array Operand} {tys:Array TypeId} (ho:o.op=.call { callee:=.builtin .min,args:=xs,argTypes:=tys }) (h:aMin lt K xs):∃ e,K e/\SOK P c lt lm nx o e:=by
 unfold aMin at h
 split at h
 ·rename_i a b he
  refine ⟨_,h,SOK.pure fun σ Γ ac w hs hl _=>?_⟩
  obtain ⟨e1,o1,o2⟩:=evs2 hs (fun x hx t e=>hl t (mem_opnds (x:=x) (by simp only [ho,Op.operands,Call.operands]; simpa using hx) e)) he
  have e2:xs.map ac.eval=#[.int .i64 a,.int .i64 b]:=Array.toList_inj.1 (by rw [Array.toList_map,e1])
  refine ⟨.int .i64 (min a b),?_,rfl,rfl,?_⟩
  ·have hm:(if b < a then b else a)=min a b:=by split<;>omega
   simp [execOp,ho,resolve,invoke,builtin,e2,Builtin.min_,Builtin.min2,Result.andThen,hm]
  ·show I64 (min a b)
   rcases Int.le_total a b with h|h
   ·rw [Int.min_eq_left h]; exact o1
   ·rw [Int.min_eq_right h]; exact o2
 ·exact h.elim
theorem aMax_ok {xs:Array Operand} {tys:Array TypeId} (ho:o.op=.call { callee:=.builtin .max,args:=xs,argTypes:=tys }) (h:aMax lt K xs):∃ e,K e/\SOK P c lt lm nx o e:=by
 unfold aMax at h
 split at h
 ·rename_i a b he
  refine ⟨_,h,SOK.pure fun σ Γ ac w hs hl _=>?_⟩
  obtain ⟨e1,o1,o2⟩:=evs2 hs (fun x hx t e=>hl t (mem_opnds (x:=x) (by simp only [ho,Op.operands,Call.operands]; simpa using hx) e)) he
  have e2:xs.map ac.eval=#[.int .i64 a,.int .i64 b]:=Array.toList_inj.1 (by rw [Array.toList_map,e1])
  refine ⟨.int .i64 (max a b),?_,rfl,rfl,?_⟩
  ·have hm:(if b > a then b else a)=max a b:=by split<;>omega
   simp [execOp,ho,resolve,invoke,builtin,e2,Builtin.max_,Builtin.max2,Result.andThen]
   omega
  ·show I64 (max a b)
   rcases Int.le_total a b with h|h
   ·rw [Int.max_eq_right h]; exact o2
   ·rw [Int.max_eq_left h]; exact o1
 ·exact h.elim
end
def capD:(A:Ty)->A.den->List Dat
 | .prod A B,x=>capD A x.1++capD B x.2
 | t,x=>[⟨t,x⟩]
def CapOK (lm:Nat->Option Blk):(A:Ty)->A.den->List Nat->Prop
 | .prod A B,x,ks=>CapOK lm A x.1 (ks.take A.size)/\CapOK lm B x.2 (ks.drop A.size)
 | .ext .ref t,some y,[k]=>match lm k with
  | some (.bx _ cs)=>Is lm t y cs
  | _=>False
 | _,_,_=>False
def rdK (lm:Nat->Option Blk):AV->List Nat
 | .clb _ ks=>ks.flatMap (boxRows lm)
 | v=>v.rows
def IsClo (lm:Nat->Option Blk):(t:Ty)->t.den->FuncId->List Nat->Prop
 | .ext (.clo g) A,some x,f,ks=>g=f/\CapOK lm A x ks
 | _,_,_,_=>False
theorem isClo_ex {lm:Nat->Option Blk}:∀ {d:Dat} {f:FuncId} {ks:List Nat},IsClo lm d.1 d.2 f ks->∃ (A:Ty) (x:A.den),d=⟨.ext (.clo f) A,some x⟩/\CapOK lm A x ks
 | ⟨.ext (.clo g) A,some x⟩,f,ks,h=>by obtain ⟨rfl,h⟩:=h; exact ⟨A,x,rfl,h⟩
 | ⟨.ext (.clo g) A,none⟩,f,ks,h=>h.elim
 | ⟨.ext .ref _,_⟩,_,_,h=>h.elim
 | ⟨.ext .opq _,_⟩,_,_,h=>h.elim
 | ⟨.int,_⟩,_,_,h=>h.elim
 | ⟨.bool,_⟩,_,_,h=>h.elim
 | ⟨.str,_⟩,_,_,h=>h.elim
 | ⟨.u8,_⟩,_,_,h=>h.elim
 | ⟨.cst _,_⟩,_,_,h=>h.elim
 | ⟨.prod _ _,_⟩,_,_,h=>h.elim
 | ⟨.slice _,_⟩,_,_,h=>h.elim
def IsC (lm:Nat->Option Blk) (d:Dat):AV->Prop
 | .clb f ks=>IsClo lm d.1 d.2 f ks
 | v=>IsV lm d v
section
variable (P:Program) (T:TypeId->Option Ty) (lt:Nat->Option AV) (lm:Nat->Option Blk) (nx:Nat) (K:Eff->Prop)
def aNilChk (x:Operand):Prop :=
 match ev lt x with
 | some (.ptr k off)=>K (.val (.ptr k off))
 | some (.ref t y off)=>K (.val (.ref t y off))
 | _=>False
def evPtrs (lt:Nat->Option AV):List Operand->Option (List Nat)
 | []=>some []
 | x :: xs=>match ev lt x,evPtrs lt xs with
  | some (.ptr k 0),some ks=>some (k :: ks)
  | _,_=>none
def aMakeClo (fn:_root_.Go.Fn) (c:List Operand):Prop :=
 match fn,evPtrs lt c with
 | .func f,some ks=>K (.val (.clb f ks))
 | _,_=>False
def aIndexArr (n:Nat) (e:TypeId) (x y:Operand):Prop :=
 match T e,ev lt x,ev lt y with
 | some t,some (.ptr k off),some (.sc (.int .i64 z))=>0<=z/\z < n/\K (.val (.ptr k (off+z.toNat * t.size)))
 | some t,some (.ref s q off),some (.sc (.int .i64 z))=>0<=z/\z < n/\K (.val (.ref s q (off+z.toNat * t.size)))
 | _,_,_=>False
def aBuildArr (ty:TypeId) (parts:Array (Nat × Operand)):Prop :=
 match T ty with
 | some t=>parts.toList=[]/\t.isAgg=true/\K (.val (.agg (zcl t)))
 | none=>False
def aMakeMap (r:Option Operand):Prop:=r=none/\K (.val (.ex .opq .int (some 0)))
def CallD (f:FuncId) (A:Ty) (x:A.den) (vs:List AV):Prop:=∃ (args:List Dat) (d:Dat),Fn P f (args++capD A x) false [d]/\d.1.flat=true/\All2 (fun v d=>IsV lm d v) vs args/\K ⟨av d.1 d.2,[],vs.flatMap AV.rows⟩
def CallK (f:FuncId) (vs:List AV):Prop:=∃ (args:List Dat) (d:Dat),Fn P f args false [d]/\d.1.flat=true/\All2 (fun v d=>IsC lm d v) vs args/\K ⟨av d.1 d.2,[],vs.flatMap (rdK lm)⟩
def CallDE (f:FuncId) (A:Ty) (x:A.den) (vs:List AV):Prop:=∃ (args:Nat->List Dat) (ds:List Dat) (res:List Dat) (kc b:Nat) (zs zs':List Value),FnW P f args (BoxI zs) (BoxI zs') res/\(∀ z ∈ zs',z.oneCell'=true/\okv z)/\args b=ds++capD A x/\All2 (fun v d=>IsV (lmQ lm) d v) vs ds/\lm kc=some (.bx (some b) (zs.map fun z=>.sc z))/\K ⟨resAV res,[(kc,.bx (some b) (zs'.map fun z=>.sc z))],kc :: vs.flatMap AV.rows⟩
def CallDD (f:FuncId) (A:Ty) (x:A.den) (vs:List AV):Prop:=CallD P lm K f A x vs\/CallDE P lm K f A x vs
def CallKE (f:FuncId) (vs:List AV):Prop:=CallK P lm K f vs\/CallE P lm K f vs
def hasClb:List AV->Bool
 | []=>false
 | .clb _ _ :: _=>true
 | _ :: vs=>hasClb vs
def aCall2 (fop:Operand) (xs:Array Operand):Prop :=
 match ev lt fop,evs lt xs.toList with
 | some (.ex (.clo f) A (some x)),some vs=>vs.all AV.ok=true/\CallDD P lm K f A x vs
 | some (.clb f ks),some vs=>vs.all AV.ok=true/\CallA P lm K f (vs++ks.map fun k=>.ptr k 0)
 | some (.sc (.func (.func f) fi ca)),some vs=>if hasClb vs=true then fi=#[]/\ca=#[]/\vs.all AV.ok=true/\CallKE P lm K f vs else aCall P lt lm nx K fop xs
 | _,_=>False
end
section
variable {P:Program} {T:TypeId->Option Ty} {c:Cx} [Nonempty (CG P c)] {lt:Nat->Option AV} {lm:Nat->Option Blk} {nx:Nat} {K:Eff->Prop} {o:Oper}
theorem aNilChk_ok {x:Operand} (ho:o.op=.nilCheck x) (h:aNilChk lt K x):∃ e,K e/\SOK P c lt lm nx o e:=by
 unfold aNilChk at h
 split at h
 ·rename_i k off hx
  refine ⟨_,h,SOK.pure fun σ Γ a w hs hl _=>?_⟩
  have hv:VRep c σ.mem Γ w (.ptr k off) (a.eval x):=op_ev hs hl (by simp [ho,Op.operands]) hx
  obtain ⟨xo,cs,hc,e⟩:=hv
  exact ⟨a.eval x,by simp [execOp,ho,e],xo,cs,hc,e⟩
 ·rename_i t y off hx
  refine ⟨_,h,SOK.pure fun σ Γ a w hs hl _=>?_⟩
  have hv:VRep c σ.mem Γ w (.ref t y off) (a.eval x):=op_ev hs hl (by simp [ho,Op.operands]) hx
  have hv':=hv
  obtain ⟨b,oo,cs,fp,e,_⟩:=hv'
  exact ⟨a.eval x,by simp [execOp,ho,e],hv⟩
 ·exact h.elim
theorem evPtrs_rep {σ:St} {Γ:Asg} {a:Act} {w:World} (hs:Sim c σ Γ a w):∀ {xs:List Operand} {ks:List Nat},(∀ x ∈ xs,∀ t,x=.tmp t->look σ.tmps t=lt t)->evPtrs lt xs=some ks →
  All2 (PtrK σ.mem Γ) ks (xs.map a.eval)
 | [],ks,_,h=>by injection h with h; subst h; trivial
 | x :: xs,ks,hl,h=>by
  simp only [evPtrs] at h
  split at h
  ·rename_i k ks' hx hks
   injection h with h; subst h
   have h1:=evPtrs_rep hs (fun y hy=>hl y (List.mem_cons_of_mem _ hy)) hks
   have hv:VRep c σ.mem Γ w (.ptr k 0) (a.eval x):=ev_rep hs (hl x List.mem_cons_self) hx
   exact ⟨hv,h1⟩
  ·cases h
theorem aMakeClo_ok {fn:_root_.Go.Fn} {f cc:Array Operand} (ho:o.op=.makeFunc fn f cc) (hf:f=#[]) (h:aMakeClo lt K fn cc.toList):∃ e,K e/\SOK P c lt lm nx o e:=by
 subst hf
 unfold aMakeClo at h
 split at h
 ·rename_i g ks hks
  refine ⟨_,h,SOK.pure fun σ Γ a w hs hl _=>?_⟩
  have h1:=evPtrs_rep hs (fun x hx t e=>hl t (mem_opnds (by simp only [ho,Op.operands]; simp; simpa using hx) e)) hks
  refine ⟨.func (.func g) #[] (cc.toList.map a.eval).toArray,?_,_,rfl,h1⟩
  have:cc.map a.eval=(cc.toList.map a.eval).toArray:=Array.toList_inj.1 (by rw [Array.toList_map])
  simp only [execOp,ho,Instr.makeFunc,Sem.run_bind,Sem.run_pure,Result.andThen_ok,this]
  simp
 ·exact h.elim
theorem aIndexArr_ok (hT:TabOK P T) {ty e:TypeId} {n:Nat} {x y:Operand} (hu:P.underlying ty=some (.array n e)) (ho:o.op=.indexAddr ty x y) (h:aIndexArr T lt K n e x y):∃ e,K e/\SOK P c lt lm nx o e:=by
 unfold aIndexArr at h
 have key:∀ (t:Ty) (b off:Nat) (z:Int) (a:Act) (w:World),T e=some t->a.eval x=.pointer (some ⟨b,off,none⟩)->a.eval y=.int .i64 z->0<=z->z < n->(execOp a.eval o).run P w=.ok (.value (.pointer (some ⟨b,off+z.toNat * t.size,none⟩))) w:=by
  intro t b off z a w ht e1 e2 h0 hz
  have hsz:=(hT e t ht).sizeOf w
  simp only [execOp,ho,e1,e2,Instr.indexAt,Instr.sureAddr,asIntOf,Sem.run_bind,Sem.run_pure,Result.andThen_ok,run_underlying hu,hsz]
  rw [if_pos ⟨h0,hz⟩]
  simp only [Sem.run_bind,Sem.run_pure,Result.andThen_ok,addr_add,hsz]
 split at h
 ·rename_i t k off z ht hx hy
  obtain ⟨h0,hz,hK⟩:=h
  refine ⟨_,hK,SOK.pure fun σ Γ a w hs hl _=>?_⟩
  obtain ⟨xo,cs,hc,e1⟩:=(op_ev hs hl (by simp [ho,Op.operands]) hx:VRep c σ.mem Γ w _ (a.eval x))
  have e2:a.eval y=_:=(op_ev hs hl (by simp [ho,Op.operands]) hy:VRep c σ.mem Γ w _ (a.eval y)).1
  exact ⟨_,key t _ _ z a w ht e1 e2 h0 hz,xo,cs,hc,rfl⟩
 ·rename_i t s q off z ht hx hy
  obtain ⟨h0,hz,hK⟩:=h
  refine ⟨_,hK,SOK.pure fun σ Γ a w hs hl _=>?_⟩
  obtain ⟨b,oo,cs,fp,e1,hr,hrest⟩:=(op_ev hs hl (by simp [ho,Op.operands]) hx:VRep c σ.mem Γ w _ (a.eval x))
  have e2:a.eval y=_:=(op_ev hs hl (by simp [ho,Op.operands]) hy:VRep c σ.mem Γ w _ (a.eval y)).1
  exact ⟨_,key t _ _ z a w ht e1 e2 h0 hz,b,oo,cs,fp,by rw [Nat.add_assoc],hr,hrest⟩
 ·exact h.elim
theorem aBuildArr_ok (hT:TabOK P T) {ty e:TypeId} {n:Nat} {parts:Array (Nat × Operand)} (hu:P.underlying ty=some (.array n e)) (hes:(T e).isSome=true) (ho:o.op=.build ty parts) (h:aBuildArr T K ty parts):∃ e,K e/\SOK P c lt lm nx o e:=by
 unfold aBuildArr at h
 split at h
 ·rename_i t ht
  obtain ⟨hp,hag,hK⟩:=h
  refine ⟨_,hK,SOK.pure fun σ Γ a w hs hl _=>?_⟩
  obtain ⟨i,dd,hi1,hi2,hi3,_,_⟩:=hT _ _ ht
  obtain ⟨te,hte⟩:=Option.isSome_iff_exists.1 hes
  have hse:=(hT _ _ hte).sizeOf w
  have hpe:parts=#[]:=Array.toList_inj.1 hp
  have hz:(zeroValue ty).run P w=.ok t.zv w:=by
   simp [zeroValue,typeInfo,hi1,hi3]
  refine ⟨.agg t.zc.toArray,?_,_,rfl,zcl_rep t⟩
  simp [execOp,ho,hpe,Instr.build,hz,run_underlying hu,hse,Instr.fill,zv_cells]
 ·exact h.elim
theorem aMakeMap_ok {t:TypeId} {r:Option Operand} (ho:o.op=.makeMap t r) (h:aMakeMap K r):∃ e,K e/\SOK P c lt lm nx o e:=by
 obtain ⟨rfl,hK⟩:=h
 refine ⟨_,hK,(fun p hp=>by cases hp),fun σ Γ a w hs hl hm _ hd K Q hK=>?_⟩
 have hrun:(execOp a.eval o).run P w=.ok (.value (.map (some w.heap.size))) (w.alloc (.map #[] 0)):=by
  simp [execOp,ho,Instr.makeMap]
 refine wp_value hrun (hK Γ _ _ ?_)
 have hs':=hs.frame (below_alloc w (.map #[] 0))
 have hv:VRep c σ.mem Γ (w.alloc (.map #[] 0)) (.ex .opq .int (some (0:Int))) (.map (some w.heap.size)):=⟨[],⟨_,rfl,rfl,rfl⟩,fun b hb=>by cases hb⟩
 have:=hs'.put (d:=o.dst) hv (fun x hx=>hd x hx)
 unfold St.app
 cases hdst:o.dst<;>simp only [hdst,St.put] at this ⊢<;>exact this
theorem cap_dat {w:World}:∀ {A:Ty} {x:A.den} {cs:List Value} {fp:List Nat},A.rp.rep w cs x fp->All2 (fun v d=>∃ fp,DRep w v d fp/\∀ b ∈ fp,(fun _=>True) b) cs (capD A x):=by
 intro A
 induction A with
 | prod A B ihA ihB =>
  intro x cs fp h
  obtain ⟨c1,c2,f1,f2,rfl,rfl,h1,h2⟩:=h
  exact (ihA h1).app (ihB h2)
 | _ =>
  intro x cs fp h
  have hl:=(Ty.rp _).len h
  rw [Ty.rp_size] at hl
  match cs,hl with
  | [v],_=>exact ⟨⟨fp,⟨[v],.inr ⟨rfl,rfl⟩,h⟩,fun _ _=>trivial⟩,trivial⟩
theorem cap_rep {σ:St} {Γ:Asg} {a:Act} {w:World} (hs:Sim c σ Γ a w):∀ {A:Ty} {x:A.den} {ks:List Nat} {us:List Value},All2 (PtrK σ.mem Γ) ks us->CapOK (look σ.mem) A x ks->∃ fp,A.rp.rep w us x fp:=by
 intro A
 induction A with
 | prod A B ihA ihB =>
  intro x ks us hp h
  obtain ⟨f1,h1⟩:=ihA (hp.take _) h.1
  obtain ⟨f2,h2⟩:=ihB (hp.drop _) h.2
  exact ⟨f1++f2,_,_,f1,f2,by rw [List.take_append_drop],rfl,h1,h2⟩
 | ext e t _ =>
  intro x ks us hp h
  cases e with
  | ref =>
   cases x with
   | none=>exact h.elim
   | some y =>
    match ks,us,hp,h with
    | [k],[u],hp,h =>
     have h:(match look σ.mem k with
      | some (.bx _ cs)=>Is (look σ.mem) t y cs
      | _=>False):=h
     split at h
     ·rename_i xo cs hk
      obtain ⟨⟨xo',cs',hq,rfl⟩,_⟩:=hp
      rw [hk] at hq; cases hq
      obtain ⟨us,e,hg,hc⟩:=box_cell hs hk
      obtain ⟨fp,hr,_⟩:=hs.isRep hc h
      refine ⟨Γ.loc k xo :: fp,Γ.loc k xo,0,us.toList,fp,rfl,rfl,hr,fun j v hv=>?_⟩
      rw [Nat.zero_add,cell_of_row w _ _ us e (0,0) hg,<-Array.getElem?_toList]; exact hv
     ·exact h.elim
    | [_],[],hp,_=>exact hp.elim
    | [_],_ :: _ :: _,hp,_=>exact hp.2.elim
    | [],_,_,h=>exact h.elim
    | _ :: _ :: _,_,_,h=>exact h.elim
  | _=>exact h.elim
 | _=>intro x ks us _ h; exact h.elim
theorem CapOK_congr {lm lm':Nat->Option Blk}:∀ {A:Ty} {x:A.den} {ks:List Nat},(∀ k ∈ ks.flatMap (boxRows lm),lm' k=lm k)->CapOK lm A x ks->CapOK lm' A x ks:=by
 intro A
 induction A with
 | prod A B ihA ihB =>
  intro x ks hc h
  exact ⟨ihA (fun k hk=>hc k (by obtain ⟨j,hj,hk⟩:=List.mem_flatMap.1 hk; exact List.mem_flatMap.2 ⟨j,List.mem_of_mem_take hj,hk⟩)) h.1,
   ihB (fun k hk=>hc k (by obtain ⟨j,hj,hk⟩:=List.mem_flatMap.1 hk; exact List.mem_flatMap.2 ⟨j,List.mem_of_mem_drop hj,hk⟩)) h.2⟩
 | ext e t _ =>
  intro x ks hc h
  cases e with
  | ref =>
   cases x with
   | none=>exact h.elim
   | some y =>
    match ks,hc,h with
    | [k],hc,h =>
     have h:(match lm k with
      | some (.bx _ cs)=>Is lm t y cs
      | _=>False):=h
     show (match lm' k with
      | some (.bx _ cs)=>Is lm' t y cs
      | _=>False)
     split at h
     ·rename_i xo cs hk
      have h1:lm' k=lm k:=hc k (by simp [boxRows,hk])
      rw [h1,hk]
      exact Is_congr (fun j hj=>hc j (by simp [boxRows,hk,hj])) h
     ·exact h.elim
    | [],_,h=>exact h.elim
    | _ :: _ :: _,_,h=>exact h.elim
  | _=>exact h.elim
 | _=>intro x ks _ h; exact h.elim
theorem all2_datC {w:World} {a:Act} {M:Mm} {Γ:Asg} {lm':Nat->Option Blk}:∀ {vs:List AV} {xs:List Operand} {args:List Dat},All2 (fun v x=>ARep c M Γ w v (a.eval x)) vs xs->All2 (fun v d=>IsC lm' d v) vs args →
  (∀ v d u,v ∈ vs->ARep c M Γ w v u->IsC lm' d v->∃ fp,DRep w u d fp/\∀ b ∈ fp,(fun _=>True) b)->All2 (fun v d=>∃ fp,DRep w v d fp/\∀ b ∈ fp,(fun _=>True) b) (xs.map a.eval) args
 | [],[],[],_,_,_=>trivial
 | v :: vs,x :: xs,d :: args,⟨h1,h2⟩,⟨h3,h4⟩,hf=>⟨hf v d _ List.mem_cons_self h1 h3,all2_datC h2 h4 fun v d u hv=>hf v d u (List.mem_cons_of_mem _ hv)⟩
 | [],_ :: _,_,h,_,_=>h.elim
 | [],[],_ :: _,_,h,_=>h.elim
 | _ :: _,[],_,h,_,_=>h.elim
 | _ :: _,_ :: _,[],_,h,_=>h.elim
theorem flat_end {σ:St} {Γ:Asg} {a:Act} {w w':World} {d:Dat} {u:Value} {fp:List Nat} {rows:List Nat} {Kc:Act->World->Prop} (hs:Sim c σ Γ a w) (hb:Below w.heap.size w w') (hfl:d.1.flat=true) (hdr:DRep w' u d fp) (hd:∀ x,o.dst=some x->x < c.n)
  (hK:∀ Γ' a' w',Sim c (σ.app o.dst ⟨av d.1 d.2,[],rows⟩) Γ' a' w'->Kc a' w'):Kc (a.put o.dst u) w':=by
 have hs':=hs.frame hb
 obtain ⟨cs,hpk,hrp⟩:=hdr
 have hf0:=flat_rep hfl hrp
 subst hf0
 have hv:VRep c σ.mem Γ w' (av d.1 d.2) u:=arep_vrep (av_rep ⟨cs,hpk,hrp⟩ fun b hbb=>by cases hbb)
 refine hK Γ _ _ ?_
 have:=hs'.put (d:=o.dst) hv (fun x hx=>hd x hx)
 unfold St.app
 cases hdst:o.dst<;>simp only [hdst,St.put] at this ⊢<;>exact this
theorem aCallK_ok {fop:Operand} {xs:Array Operand} {tys:Array TypeId} (ho:o.op=.call { callee:=.value fop,args:=xs,argTypes:=tys }) {f:FuncId} {vs:List AV} (hf:ev lt fop=some (.sc (.func (.func f) #[] #[]))) (hvs:evs lt xs.toList=some vs) (hok:vs.all AV.ok=true) (h:CallK P lm K f vs):∃ e,K e/\SOK P c lt lm nx o e:=by
 obtain ⟨args,d,hfn,hfl,hargs,hK⟩:=h
 refine ⟨_,hK,(fun p hp=>by cases hp),fun σ Γ a w hs hl hm hn hd K Q hK=>?_⟩
 obtain ⟨hr,hv⟩:=call_run ho hf hvs hok hfn.1 σ Γ a w hs hl
 unfold Oper.wp
 rw [hr,Oper.upon_enter]
 have hma:xs.map a.eval=(xs.toList.map a.eval).toArray:=Array.toList_inj.1 (by rw [Array.toList_map])
 rw [hma]
 have hrd:∀ v ∈ vs,∀ k ∈ rdK lm v,look σ.mem k=lm k:=fun v hv k hk=>hm k (List.mem_flatMap.2 ⟨v,hv,hk⟩)
 have hda:=all2_datC hv hargs (fun v d u hvm hvr hi=>by
  have hrv:=hrd v hvm
  cases v with
  | clb g ks =>
   obtain ⟨A,x,rfl,hc⟩:=isClo_ex hi
   obtain ⟨us,rfl,hpk⟩:=hvr
   obtain ⟨fp,hrp⟩:=cap_rep hs hpk (CapOK_congr (lm':=look σ.mem) hrv hc)
   exact ⟨fp,⟨_,.inr ⟨rfl,rfl⟩,_,rfl,hrp⟩,fun _ _=>trivial⟩
  | _ =>
   obtain ⟨fp,h1,_⟩:=hs.isVRep hvr (IsV_congr (d:=d) hrv hi)
   exact ⟨fp,h1,fun _ _=>trivial⟩)
 refine (hfn.2 w _ _ (cg_gw hs) hda).mono ?_
 rintro e w' ⟨hb,u,rfl,fp,hdr,_,_⟩
 exact flat_end hs hb hfl hdr hd hK
theorem aCallD_ok {fop:Operand} {xs:Array Operand} {tys:Array TypeId} (ho:o.op=.call { callee:=.value fop,args:=xs,argTypes:=tys }) {f:FuncId} {A:Ty} {x:A.den} {vs:List AV} (hf:ev lt fop=some (.ex (.clo f) A (some x))) (hvs:evs lt xs.toList=some vs) (hok:vs.all AV.ok=true) (h:CallD P lm K f A x vs):∃ e,K e/\SOK P c lt lm nx o e:=by
 obtain ⟨args,d,hfn,hfl,hargs,hK⟩:=h
 refine ⟨_,hK,(fun p hp=>by cases hp),fun σ Γ a w hs hl hm hn hd K Q hK=>?_⟩
 have hl':∀ x ∈ o.op.operands.toList,∀ t,x=.tmp t->look σ.tmps t=lt t:=fun x hx t e=>hl t (mem_opnds hx e)
 obtain ⟨fpc,hrc,_⟩:=(ev_rep hs (hl' fop (by simp [ho,Op.operands,Call.operands])) hf:VRep c σ.mem Γ w _ (a.eval fop))
 obtain ⟨cs',e1,hrc⟩:=hrc
 injection e1 with e1
 have hv:=evs_rep hs (fun x hx=>hl' x (by simp only [ho,Op.operands,Call.operands]; simp; exact .inr (by simpa using hx))) hvs hok
 have hma:xs.map a.eval=(xs.toList.map a.eval).toArray:=Array.toList_inj.1 (by rw [Array.toList_map])
 have hr:(execOp a.eval o).run P w=.ok (.enter f (xs.toList.map a.eval++cs').toArray) w:=by
  have h0:=hfn.1 (xs.map a.eval++cs'.toArray) w
  rw [hma] at h0
  simp [execOp,ho,resolve,e1,Deferred.ofValue,invoke]
  rw [hma]
  simpa using h0
 unfold Oper.wp
 rw [hr,Oper.upon_enter]
 have hrows:∀ v ∈ vs,∀ k ∈ v.rows,look σ.mem k=lm k:=fun v hv k hk=>hm k (List.mem_flatMap.2 ⟨v,hv,hk⟩)
 have hda:=(all2_dat (S:=fun _=>True) hv hargs (fun v d u hvm hvr hi=>by
  obtain ⟨fp,h1,_⟩:=hs.isVRep hvr (IsV_congr (hrows v hvm) hi)
  exact ⟨fp,h1,fun _ _=>trivial⟩)).app (cap_dat hrc)
 refine (hfn.2 w _ _ (cg_gw hs) hda).mono ?_
 rintro e w' ⟨hb,u,rfl,fp,hdr,_,_⟩
 exact flat_end hs hb hfl hdr hd hK
theorem cap_datS {w:World} {S:Nat->Prop}:∀ {A:Ty} {x:A.den} {cs:List Value} {fp:List Nat},A.rp.rep w cs x fp->(∀ y ∈ fp,S y)->All2 (fun v d=>∃ fp,DRep w v d fp/\∀ b ∈ fp,S b) cs (capD A x):=by
 intro A
 induction A with
 | prod A B ihA ihB =>
  intro x cs fp h hS
  obtain ⟨c1,c2,f1,f2,rfl,rfl,h1,h2⟩:=h
  exact (ihA h1 fun y hy=>hS y (List.mem_append.2 (.inl hy))).app (ihB h2 fun y hy=>hS y (List.mem_append.2 (.inr hy)))
 | _ =>
  intro x cs fp h hS
  have hl:=(Ty.rp _).len h
  rw [Ty.rp_size] at hl
  match cs,hl with
  | [v],_=>exact ⟨⟨fp,⟨[v],.inr ⟨rfl,rfl⟩,h⟩,hS⟩,trivial⟩
theorem aCallDE_ok {fop:Operand} {xs:Array Operand} {tys:Array TypeId} (ho:o.op=.call { callee:=.value fop,args:=xs,argTypes:=tys }) {f:FuncId} {A:Ty} {x:A.den} {vs:List AV} (hf:ev lt fop=some (.ex (.clo f) A (some x))) (hvs:evs lt xs.toList=some vs) (hok:vs.all AV.ok=true) (h:CallDE P lm K f A x vs):∃ e,K e/\SOK P c lt lm nx o e:=by
 obtain ⟨args,ds,res,kc,b,zs,zs',hfn,hzs,hab,hargs,hkc,hK⟩:=h
 refine ⟨_,hK,?_⟩
 clear hK
 refine ⟨fun p hp=>(by rw [List.mem_singleton] at hp; subst hp; exact .inr List.mem_cons_self),fun σ Γ a w hs hl hm hn hd K Q hK=>?_⟩
 have hl':∀ x ∈ o.op.operands.toList,∀ t,x=.tmp t->look σ.tmps t=lt t:=fun x hx t e=>hl t (mem_opnds hx e)
 obtain ⟨fpc,hrc,hgc⟩:=(ev_rep hs (hl' fop (by simp [ho,Op.operands,Call.operands])) hf:VRep c σ.mem Γ w _ (a.eval fop))
 obtain ⟨cs',e1,hrc⟩:=hrc
 injection e1 with e1
 have hv:=evs_rep hs (fun x hx=>hl' x (by simp only [ho,Op.operands,Call.operands]; simp; exact .inr (by simpa using hx))) hvs hok
 have hma:xs.map a.eval=(xs.toList.map a.eval).toArray:=Array.toList_inj.1 (by rw [Array.toList_map])
 have hr:(execOp a.eval o).run P w=.ok (.enter f (xs.toList.map a.eval++cs').toArray) w:=by
  have h0:=hfn.1 (xs.map a.eval++cs'.toArray) w
  rw [hma] at h0
  simp [execOp,ho,resolve,e1,Deferred.ofValue,invoke]
  rw [hma]
  simpa using h0
 unfold Oper.wp
 rw [hr,Oper.upon_enter]
 have hk':=(hm kc List.mem_cons_self).trans hkc
 obtain ⟨_,us,e,hg,hc⟩:=hs.mm kc _ hk'
 obtain ⟨hus,_⟩:=sc_vals hc
 have hg:w.heap[b]? = some (.cells us e (0,0)):=hg
 have hne:∀ y,Gd c σ.mem Γ y->y ≠ b:=fun y hy e=>hy.2 ⟨kc,_,hk',e⟩
 have hrows:∀ v ∈ vs,∀ k ∈ v.rows,look σ.mem k=lm k:=fun v hv k hk=>hm k (List.mem_cons_of_mem _ (List.mem_flatMap.2 ⟨v,hv,hk⟩))
 have hda:=(all2_datH (S:=fun y=>y ≠ b) (R:=fun d v=>IsV (lmQ lm) d v) hv hargs (fun v d u hvm hvr hi=>by
   obtain ⟨fp,h1,h2⟩:=isQ_rep hs hvr (IsV_congr (fun k hk=>by unfold lmQ; rw [hrows v hvm k hk]) hi)
   exact ⟨fp,h1,fun y hy=>hne y (h2 y hy)⟩)).app (cap_datS hrc fun y hy=>hne y (hgc y hy))
 rw [<-hab] at hda
 refine (hfn.2.2 w b _ _ _ (cg_gw hs) (cg_ne (hs.mut_lt hk' rfl).1) hg ⟨e,by rw [<-hus]⟩ (fun h=>h rfl) hda).mono ?_
 rintro en w' ⟨hbx,⟨o',ho',e',rfl⟩,u,rfl,hres⟩
 have hlt:b < w.heap.size:=lt_of_heap hg
 have hs1:=hs.setBox' (cs':=zs'.map fun z=>.sc z) (us:=zs'.toArray) (e:=e') hk' (vals_sc hzs)
 have hs1:Sim c ⟨σ.tmps,(kc,.bx (some b) (zs'.map fun z=>.sc z)) :: σ.mem⟩ Γ a { w with heap:=w.heap.setIfInBounds b (.cells zs'.toArray e' (0,0)) }:=hs1
 have hw1:∀ i,(w.heap.setIfInBounds b (.cells zs'.toArray e' (0,0)))[i]? = if b=i then some (.cells zs'.toArray e' (0,0)) else w.heap[i]?:=fun i=>by
  rw [Array.getElem?_setIfInBounds]
  split
  ·rename_i e; subst e; first|rfl|rw [if_pos hlt]
  ·rfl
 have hb1:Below { w with heap:=w.heap.setIfInBounds b (.cells zs'.toArray e' (0,0)) }.heap.size { w with heap:=w.heap.setIfInBounds b (.cells zs'.toArray e' (0,0)) } w':=by
  refine ⟨hbx.os,hbx.tape,hbx.output,by simpa using hbx.size,fun i hi=>?_⟩
  have hi:i < w.heap.size:=by simpa using hi
  show w'.heap[i]? = (w.heap.setIfInBounds b (.cells zs'.toArray e' (0,0)))[i]?
  rw [hw1]
  split
  ·rename_i e; subst e; exact ho'
  ·rename_i e; exact hbx.block i hi (Ne.symm e)
 refine hK Γ _ _ ?_
 have:=(hs1.frame hb1).put (d:=o.dst) (resAV_rep hfn.2.1 hres) (fun x hx=>hd x hx)
 unfold St.app
 cases hdst:o.dst<;>simp only [hdst,St.put,List.cons_append,List.nil_append] at this ⊢<;>exact this
theorem aCall2_ok (hnx:∀ k,nx<=k->lm k=none) {fop:Operand} {xs:Array Operand} {tys:Array TypeId} (ho:o.op=.call { callee:=.value fop,args:=xs,argTypes:=tys }) (h:aCall2 P lt lm nx K fop xs):∃ e,K e/\SOK P c lt lm nx o e:=by
 unfold aCall2 at h
 split at h
 ·rename_i f A x vs hf hvs
  exact h.2.elim (aCallD_ok ho hf hvs h.1) (aCallDE_ok ho hf hvs h.1)
 ·rename_i f ks vs hf hvs
  obtain ⟨hok,h⟩:=h
  have hfr:∀ vs w,(callFunc f vs).run P w=.ok (.enter f vs) w:=by obtain ⟨_,_,_,_,hfn,_⟩:=h; exact hfn.1
  refine aCallA_ok (fun σ Γ a w hs hl=>?_) h
  have hl':∀ x ∈ o.op.operands.toList,∀ t,x=.tmp t->look σ.tmps t=lt t:=fun x hx t e=>hl t (mem_opnds hx e)
  obtain ⟨us,e1,hk⟩:=(ev_rep hs (hl' fop (by simp [ho,Op.operands,Call.operands])) hf:VRep c σ.mem Γ w _ (a.eval fop))
  have hv:=evs_rep hs (fun x hx=>hl' x (by simp only [ho,Op.operands,Call.operands]; simp; exact .inr (by simpa using hx))) hvs hok
  refine ⟨xs.toList.map a.eval++us,?_,(hv.right_map a.eval).app ?_⟩
  ·have h0:=hfr (xs.map a.eval++us.toArray) w
   have e2:(xs.toList.map a.eval++us).toArray=xs.map a.eval++us.toArray:=Array.toList_inj.1 (by simp)
   rw [e2]
   simp [execOp,ho,resolve,e1,Deferred.ofValue,invoke,h0]
  ·have key:∀ {ks:List Nat} {us:List Value},All2 (PtrK σ.mem Γ) ks us->All2 (fun v u=>ARep c σ.mem Γ w v u) (ks.map fun k=>AV.ptr k 0) us:=by
    intro ks
    induction ks with
    | nil=>intro us h; cases us with
     | nil=>trivial
     | cons=>exact h.elim
    | cons k ks ih=>intro us h; cases us with
     | nil=>exact h.elim
     | cons u us=>exact ⟨h.1,ih h.2⟩
   exact key hk
 ·rename_i f fi ca vs hf hvs
  split at h
  ·obtain ⟨rfl,rfl,hok,h⟩:=h
   exact h.elim (aCallK_ok ho hf hvs hok) (aCallE_ok ho hf hvs hok)
  ·exact aCall_ok hnx ho h
 ·exact h.elim
end
open Go.ChangeMaps (setBlock)
structure KeyK (P:Program) (ty:TypeId):Prop where
 ok:∃ kt et,P.underlying ty=some (.map kt et)/\Maps.Keyed P kt/\(∀ s,I3 s->∃ l,keyOf P kt (K3 s)=some l)/\∀ w,(zeroValue et).run P w=.ok (.bool false) w
theorem K3_inj {s s':Int × Int × Int} (h:K3 s=K3 s'):s=s':=by
 obtain ⟨a,b,c⟩:=s
 obtain ⟨a',b',c'⟩:=s'
 simp [K3] at h
 obtain ⟨rfl,rfl,rfl⟩:=h
 rfl
theorem mlk_cons (s s':Int × Int × Int) (b:Bool) (g:List ((Int × Int × Int) × Bool)):mlk ((s,b) :: g) s'=if s=s' then some b else mlk g s':=(rfl)
section
variable {P:Program} {w:World} {m:Nat} {es:Array MapEntry} {ck:Nat} {g:List ((Int × Int × Int) × Bool)} {ty:TypeId} {s:Int × Int × Int}
theorem run_look (K:KeyK P ty) (hm:w.heap[m]? = some (.map es ck)) (h:MapIs es g) (hs:I3 s) (c:Bool):(Instr.lookup ty (.map (some m)) (K3 s) c).run P w=.ok (if c then .tuple #[.bool ((mlk g s).getD false),.bool (mlk g s).isSome] else .bool ((mlk g s).getD false)) w:=by
 obtain ⟨kt,et,hu,K,hkey,hz⟩:=K.ok
 obtain ⟨l,hl⟩:=hkey s hs
 have hk:∀ e ∈ es.toList,∃ l,keyOf P kt e.key=some l:=fun e he=>by
  obtain ⟨s',b,e1,h1,_⟩:=h.key e he
  obtain ⟨l',hl'⟩:=hkey s' h1
  exact ⟨l',by rw [e1]; exact hl'⟩
 rcases K.find w hl es.toList hk with ⟨h1,h2⟩|⟨j,e0,h1,h2,h3⟩
 ·have hn:mlk g s=none:=by
   cases hq:mlk g s with
   | none=>rfl
   | some b =>
    obtain ⟨e,he,e1⟩:=h.all s b hq
    exact absurd e1 (h2 e he)
  rw [hn]
  cases c<;>simp [Instr.lookup,run_underlying hu,MapKept.run_getObj_map hm,K.check w _ hl,h1,hz w,Result.andThen]
 ·obtain ⟨s',b,e1,_,e2,e3⟩:=h.key e0 (List.mem_of_getElem? h2)
  obtain rfl:s'=s:=K3_inj (e1.symm.trans h3)
  rw [e2]
  cases c<;>simp [Instr.lookup,run_underlying hu,MapKept.run_getObj_map hm,K.check w _ hl,h1,e3,Result.andThen]
theorem run_upd (K:KeyK P ty) (hm:w.heap[m]? = some (.map es ck)) (h:MapIs es g) (hs:I3 s) (b:Bool):∃ es' ck',(Instr.mapUpdate ty (.map (some m)) (K3 s) (.bool b)).run P w=.ok () (setBlock w m (.map es' ck'))/\MapIs es' ((s,b) :: g):=by
 obtain ⟨kt,et,hu,K,hkey,hz⟩:=K.ok
 obtain ⟨l,hl⟩:=hkey s hs
 have hk:∀ e ∈ es.toList,∃ l,keyOf P kt e.key=some l:=fun e he=>by
  obtain ⟨s',b,e1,h1,_⟩:=h.key e he
  obtain ⟨l',hl'⟩:=hkey s' h1
  exact ⟨l',by rw [e1]; exact hl'⟩
 have hother:∀ e ∈ es.toList,e.key ≠ K3 s->∃ s' b',e.key=K3 s'/\I3 s'/\mlk ((s,b) :: g) s'=some b'/\e.val=.bool b':=fun e he hne=>by
  obtain ⟨s',b',e1,e2,e3,e4⟩:=h.key e he
  exact ⟨s',b',e1,e2,by rw [mlk_cons,if_neg fun e=>hne (by rw [e1,e])]; exact e3,e4⟩
 rcases K.find w hl es.toList hk with ⟨h1,h2⟩|⟨j,e0,h1,h2,h3⟩
 ·refine ⟨es.push ⟨K3 s,.bool b,ck⟩,ck+1,?_,?_,fun e he=>?_,fun s' b' hq=>?_,?_⟩
  ·simp [Instr.mapUpdate,run_underlying hu,MapKept.run_getObj_map hm,K.check w false hl,h1,MapKept.run_setObj_map _ hm,Result.andThen,setBlock]
  ·have:=h.size
   simp; omega
  ·simp only [Array.toList_push,List.mem_append,List.mem_singleton] at he
   rcases he with he|rfl
   ·exact hother e he (h2 e he)
   ·exact ⟨s,b,rfl,hs,if_pos rfl,rfl⟩
  ·simp only [Array.toList_push,List.mem_append,List.mem_singleton]
   rw [mlk_cons] at hq
   split at hq
   ·rename_i e; subst e; exact ⟨_,.inr rfl,rfl⟩
   ·obtain ⟨e,he,e1⟩:=h.all s' b' hq
    exact ⟨e,.inl he,e1⟩
  ·rw [Array.toList_push,List.pairwise_append]
   exact ⟨h.dist,List.pairwise_singleton ..,fun e he e' he'=>by rw [List.mem_singleton.1 he']; exact h2 e he⟩
 ·have hj:es[j]? = some e0:=by rw [<-Array.getElem?_toList]; exact h2
  have hstay:=K.stays w hl
  have hmod:(es.modify j fun e=>{ e with key:=K3 s,val:=.bool b }).toList=es.toList.set j { e0 with key:=K3 s,val:=.bool b }:=by
   apply List.ext_getElem?
   intro i
   rw [Array.getElem?_toList,Array.getElem?_modify,List.getElem?_set]
   by_cases hij:j=i
   ·subst hij
    have hlt:j < es.toList.length:=(List.getElem?_eq_some_iff.1 h2).1
    rw [if_pos rfl,if_pos rfl,if_pos hlt,hj]; rfl
   ·rw [if_neg hij,if_neg hij,Array.getElem?_toList]
  have hdist:∀ i e,es.toList[i]? = some e->i ≠ j->e.key ≠ K3 s:=fun i e he hij hke=>by
   have hp:=List.pairwise_iff_getElem.1 h.dist
   obtain ⟨hi,rfl⟩:=List.getElem?_eq_some_iff.1 he
   obtain ⟨hjl,rfl⟩:=List.getElem?_eq_some_iff.1 h2
   rcases Nat.lt_or_ge i j with h5|h5
   ·exact hp i j hi hjl h5 (hke.trans h3.symm)
   ·exact hp j i hjl hi (by omega) (h3.trans hke.symm)
  refine ⟨es.modify j fun e=>{ e with key:=K3 s,val:=.bool b },ck,?_,?_,fun e he=>?_,fun s' b' hq=>?_,?_⟩
  ·simp [Instr.mapUpdate,run_underlying hu,MapKept.run_getObj_map hm,K.check w false hl,h1,hj,h3,hstay,MapKept.run_setObj_map _ hm,Result.andThen,setBlock]
  ·have:=h.size
   simp; omega
  ·rw [hmod] at he
   obtain ⟨i,hi,rfl⟩:=List.getElem_of_mem he
   rw [List.getElem_set]
   split
   ·exact ⟨s,b,rfl,hs,if_pos rfl,rfl⟩
   ·rename_i hij
    have hi':i < es.toList.length:=by rw [List.length_set] at hi; exact hi
    exact hother _ (List.getElem_mem hi') (hdist i _ (List.getElem?_eq_getElem hi') (fun e=>hij e.symm))
  ·rw [hmod]
   have hjl:j < es.toList.length:=(List.getElem?_eq_some_iff.1 h2).1
   have hin:({ e0 with key:=K3 s,val:=.bool b }:MapEntry) ∈ es.toList.set j { e0 with key:=K3 s,val:=.bool b }:=List.mem_set hjl _
   rw [mlk_cons] at hq
   split at hq
   ·rename_i e; subst e; exact ⟨_,hin,rfl⟩
   ·rename_i hne
    obtain ⟨e,he,e1⟩:=h.all s' b' hq
    obtain ⟨i,hi,rfl⟩:=List.getElem_of_mem he
    have hij:i ≠ j:=fun hh=>by
     subst hh
     have:es.toList[i]=e0:=by rw [List.getElem?_eq_getElem hi] at h2; injection h2
     rw [this] at e1
     exact hne (K3_inj (h3.symm.trans e1))
    refine ⟨es.toList[i],?_,e1⟩
    refine List.mem_iff_getElem.2 ⟨i,by rw [List.length_set]; exact hi,?_⟩
    rw [List.getElem_set_ne (Ne.symm hij)]
  ·rw [hmod,List.pairwise_iff_getElem]
   intro i i' hi hi' hlt
   have hp:=List.pairwise_iff_getElem.1 h.dist
   rw [List.length_set] at hi hi'
   rw [List.getElem_set,List.getElem_set]
   by_cases h5:j=i<;>by_cases h6:j=i'
   ·omega
   ·rw [if_pos h5,if_neg h6]
    exact fun e=>hdist i' _ (List.getElem?_eq_getElem hi') (Ne.symm h6) e.symm
   ·rw [if_neg h5,if_pos h6]
    exact hdist i _ (List.getElem?_eq_getElem hi) (Ne.symm h5)
   ·rw [if_neg h5,if_neg h6]
    exact hp i i' hi hi' hlt
end
section
variable (P:Program) (T:TypeId->Option Ty) (lt:Nat->Option AV) (lm:Nat->Option Blk) (nx:Nat) (K:Eff->Prop)
def mapE (x:Operand):Option (Nat × Option Value × Nat × List ((Int × Int × Int) × Bool)) :=
 match ev lt x with
 | some (.row k ver)=>match lm k with
  | some (.ob xo v (.map g))=>if v=ver then some (k,xo,v,g) else none
  | _=>none
 | some (.sc (.map (some m)))=>match lm 0 with
  | some (.ob (some (.map (some m'))) v (.map g))=>if m'=m then some (0,some (.map (some m')),v,g) else none
  | _=>none
 | _=>none
def aLook (ty:TypeId) (x y:Operand) (c:Bool):Prop :=
 match mapE lt lm x,ev lt y with
 | some (k,_,_,g),some (.agg [.sc (.int .i64 a),.sc (.int .i64 b),.sc (.int .i64 d)]) =>
  KeyK P ty/\K ⟨if c then .tup [.sc (.bool ((mlk g (a,b,d)).getD false)),.sc (.bool (mlk g (a,b,d)).isSome)] else .sc (.bool ((mlk g (a,b,d)).getD false)),[],[k]⟩
 | _,_=>False
def aUpd (ty:TypeId) (x y z:Operand):Prop :=
 match mapE lt lm x,ev lt y,ev lt z with
 | some (k,xo,v,g),some (.agg [.sc (.int .i64 a),.sc (.int .i64 b),.sc (.int .i64 d)]),some (.sc (.bool r)) =>
  KeyK P ty/\K ⟨.junk,[(k,.ob xo v (.map (((a,b,d),r) :: g)))],[k]⟩
 | _,_,_=>False
def aNewMap (ty:TypeId) (r:Option Operand):Prop :=
 match T ty with
 | some (.cst (.mp none))=>r=none/\K ⟨.row nx 0,[(nx,.ob none 0 (.map []))],[]⟩
 | _=>aMakeMap K r
end
section
variable {P:Program} {T:TypeId->Option Ty} {c:Cx} [Nonempty (CG P c)] {lt:Nat->Option AV} {lm:Nat->Option Blk} {nx:Nat} {K:Eff->Prop} {o:Oper}
theorem mapE_rep {σ:St} {Γ:Asg} {a:Act} {w:World} (hs:Sim c σ Γ a w) {x:Operand} {k:Nat} {xo:Option Value} {v:Nat} {g:List ((Int × Int × Int) × Bool)} (hx:x ∈ o.op.operands.toList) (hl:∀ t ∈ opnds o,look σ.tmps t=lt t) (hm:look σ.mem k=lm k)
  (h:mapE lt lm x=some (k,xo,v,g)):lm k=some (.ob xo v (.map g))/\∃ m es ck,a.eval x=.map (some m)/\Γ.ov k xo=.map (some m)/\w.heap[m]? = some (.map es ck)/\MapIs es g:=by
 unfold mapE at h
 split at h
 ·rename_i k' ver hv
  split at h
  ·rename_i xo' v' g' hk
   split at h
   ·rename_i hvv
    injection h with h
    injection h with e1 h
    injection h with e2 h
    injection h with e3 e4
    subst e1 e2 e3 e4
    obtain ⟨_,B,hB,hbh⟩:=(op_ev hs hl hx hv:VRep c σ.mem Γ w _ (a.eval x))
    rw [hm,hk] at hB
    injection hB with hB
    subst hB
    obtain ⟨b,ob,h1,h2,h3,⟨m,h4⟩,es,ck,rfl,h6⟩:=hs.mm _ _ (hm.trans hk)
    rw [h4] at h1
    injection h1 with h1
    subst h1
    exact ⟨hk,m,es,ck,(hbh.2 hvv).trans h4,h4,h3,h6⟩
   ·cases h
  ·cases h
 ·rename_i m hv
  split at h
  ·rename_i m' v' g' hk
   split at h
   ·rename_i hvv
    subst hvv
    injection h with h
    injection h with e1 h
    injection h with e2 h
    injection h with e3 e4
    subst e1 e2 e3 e4
    obtain ⟨e1,_⟩:=(op_ev hs hl hx hv:VRep c σ.mem Γ w _ (a.eval x))
    obtain ⟨b,ob,h1,h2,h3,⟨m,h4⟩,es,ck,rfl,h6⟩:=hs.mm _ _ (hm.trans hk)
    have h4':=h4
    injection h4' with h4'
    injection h4' with h4'
    subst h4'
    injection h1 with h1
    subst h1
    exact ⟨hk,_,es,ck,e1,rfl,h3,h6⟩
   ·cases h
  ·cases h
 ·cases h
theorem k3_rep {σ:St} {Γ:Asg} {w:World} {x y z:Int} {u:Value} (h:VRep c σ.mem Γ w (.agg [.sc (.int .i64 x),.sc (.int .i64 y),.sc (.int .i64 z)]) u):u=K3 (x,y,z)/\I3 (x,y,z):=by
 obtain ⟨us,rfl,h⟩:=h
 have hl:=h.len
 match us,hl with
 | [u1,u2,u3],_ =>
  obtain ⟨⟨e1,_,h1⟩,⟨e2,_,h2⟩,⟨e3,_,h3⟩,_⟩:=h
  subst e1 e2 e3
  exact ⟨rfl,h1,h2,h3⟩
theorem aLook_ok {ty:TypeId} {x y:Operand} {cm:Bool} (ho:o.op=.lookup ty x y cm) (h:aLook P lt lm K ty x y cm):∃ e,K e/\SOK P c lt lm nx o e:=by
 unfold aLook at h
 split at h
 ·rename_i k xo v g x1 x2 x3 hx hy
  obtain ⟨hK,h⟩:=h
  refine ⟨_,h,SOK.pure fun σ Γ a w hs hl hm=>?_⟩
  obtain ⟨_,m,es,ck,e1,e2,e3,e4⟩:=mapE_rep hs (by simp [ho,Op.operands]) hl (hm k (by simp)) hx
  obtain ⟨e5,e6⟩:=k3_rep (op_ev hs hl (by simp [ho,Op.operands]) hy)
  have hr:=run_look hK e3 e4 e6 cm
  cases cm with
  | true=>exact ⟨_,by simp only [execOp,ho,e1,e5]; simp [hr],[_,_],rfl,⟨rfl,rfl,trivial⟩,⟨rfl,rfl,trivial⟩,trivial⟩
  | false=>exact ⟨_,by simp only [execOp,ho,e1,e5]; simp [hr],rfl,rfl,trivial⟩
 ·exact h.elim
theorem aUpd_ok {ty:TypeId} {x y z:Operand} (ho:o.op=.mapUpdate ty x y z\/o.op=.insert ty x y z) (h:aUpd P lt lm K ty x y z):∃ e,K e/\SOK P c lt lm nx o e:=by
 unfold aUpd at h
 split at h
 ·rename_i k xo v g x1 x2 x3 r hx hy hz
  obtain ⟨hK,h⟩:=h
  refine ⟨_,h,SOK.one (.inr (by simp)) fun σ Γ a w hs hl hm _=>?_⟩
  obtain ⟨hk,m,es,ck,e1,e2,e3,e4⟩:=mapE_rep hs (by rcases ho with ho|ho<;>simp [ho,Op.operands]) hl (hm k (by simp)) hx
  obtain ⟨e5,e6⟩:=k3_rep (op_ev hs hl (by rcases ho with ho|ho<;>simp [ho,Op.operands]) hy)
  obtain ⟨e7,_⟩:=(op_ev hs hl (by rcases ho with ho|ho<;>simp [ho,Op.operands]) hz:VRep c σ.mem Γ w _ (a.eval z))
  obtain ⟨es',ck',hr,hmi⟩:=run_upd hK e3 e4 e6 r
  have hk':=(hm k (by simp)).trans hk
  refine ⟨undef,setBlock w m (.map es' ck'),Γ,.inr ⟨?_,rfl⟩,hs.setOb (d':=.map (((x1,x2,x3),r) :: g)) hk' (by rw [e2]; rfl) (by rw [e2]; rfl) (ChangeMaps.heap_setBlock_same e3 _) ⟨⟨m,e2⟩,es',ck',rfl,hmi⟩ rfl rfl rfl (by simp [setBlock]) (fun i hi=>ChangeMaps.heap_setBlock_other e3 _ hi),trivial⟩
  rcases ho with ho|ho
  ·simp only [execOp,ho,e1,e5,e7]; simp [hr]
  ·simp only [execOp,ho,e1,e5,e7]; simp [hr]
 ·exact h.elim
theorem aNewMap_ok {t:TypeId} {r:Option Operand} (ho:o.op=.makeMap t r) (h:aNewMap T nx K t r):∃ e,K e/\SOK P c lt lm nx o e:=by
 unfold aNewMap at h
 split at h
 ·obtain ⟨rfl,hK⟩:=h
  refine ⟨_,hK,SOK.one (.inl (Nat.le_refl _)) fun σ Γ a w hs hl _ hn=>?_⟩
  refine ⟨.map (some w.heap.size),w.alloc (.map #[] 0),Γ.setR nx (.map (some w.heap.size)) [],.inl (by simp [execOp,ho,Instr.makeMap]),hs.newOb (hn (by simp)) rfl ⟨⟨_,rfl⟩,#[],0,rfl,⟨Nat.le_refl _,(fun e he=>by simp at he),(fun s b h=>by cases h),by simp⟩⟩,?_⟩
  exact ⟨rfl,_,look_self ..,Nat.le_refl _,fun _=>(Asg.setR_hd ..).symm⟩
 ·exact aMakeMap_ok ho h
end
theorem run_append_room_off {P:Program} {w:World} (t ty e:TypeId) (i:TypeInfo) (ht:P.underlying t=some (.slice e)) (hi:P.info? e=some i)
  (g off sLen sCap:Nat) (cur:Array Value) (hg:w.heap[g]? = some (.cells cur e (0,0)))
  (a:Addr) (m c:Nat) (news:List Value) (hl:news.length=m * i.size) (hnews:∀ j u,news[j]? = some u->w.cell? (a.add j)=some u) (h1:∀ u ∈ news,u.oneCell'=true)
  (hroom:sLen+m<=sCap) (hfit:off+sLen * i.size+news.length<=cur.size) :
  (Builtin.append_ #[t,t] ty #[.slice (some ⟨g,off,none⟩) sLen sCap,.slice (some a) m c]).run P w =
   .ok (.slice (some ⟨g,off,none⟩) (sLen+m) sCap) (w.setRow g (cur.toList.take (off+sLen * i.size)++news++cur.toList.drop (off+sLen * i.size+news.length)).toArray):=by
 have hf:=run_firstCells_some (P:=P) w i.size m a m c news hl hnews
 have hst:=run_storeCells_at P g (off+sLen * i.size) e news 0 cur w hg (by simpa using hfit) h1
 simp only [Nat.add_zero] at hst
 simp [Builtin.append_,run_underlying ht,sizeOf,typeInfo,hi,Builtin.lenOf,hroom,hf,addr_add,hst]
theorem flat_any {t:Ty} (hf:t.flat=true) {w w':World} {cs:List Value} {x:t.den} (h:t.rp.rep w cs x []):t.rp.rep w' cs x []:=t.rp.frame h fun b hb=>by cases hb
theorem run_appendQ {P:Program} {w:World} {v:Value} {s:Ty} {l m:List s.den} {o:Obj} {b:Nat} {css:List (List Value)} {fps2:List (List Nat)} {a:Addr} {cc:Nat} (t ty e:TypeId) (i:TypeInfo) (z:Value) (ht:P.underlying t=some (.slice e)) (hi:P.info? e=some i) (hz:i.zero=some z)
  (hsize:i.size=s.rp.size) (hzs:z.cells.size=s.rp.size) (hf:s.flat=true) (hI:(ObD.que e s l).I v o) (hb:oblk (.que e s l) v=some b) (hg:w.heap[b]? = some o) (hr:RowsOf s.rp w m css fps2) (hc:∀ j d,css.flatten[j]? = some d->w.cell? (a.add j)=some d)
  (h63:l.length+m.length<=maxLen) (hbytes:(l.length+m.length) * i.bytes<=140737488355328) :
  ∃ v' w' b' o',(Builtin.append_ #[t,t] ty #[v,.slice (some a) m.length cc]).run P w=.ok v' w'/\oblk (.que e s (l++m)) v'=some b'/\w'.heap[b']? = some o'/\(ObD.que e s (l++m)).I v' o'/\w.grownBy w' (some b)/\(b'=b\/b'=w.heap.size)/\v'.oneCell'=true:=by
 obtain ⟨b0,off,cap,us,rfl,rfl,hlc,hcm,hsz,hel⟩:=hI
 have hbb:(Value.slice (some ⟨b0,off,none⟩) l.length cap).ownBlock=some b:=hb
 have hbb':some b0=some b:=hbb
 injection hbb' with hbb'
 subst hbb'
 obtain ⟨g1,g2⟩:=flat_get hr.len
 have hps:=s.pos
 have hnl:css.flatten.length=m.length * s.rp.size:=by rw [g1,hr.1]
 have hnews:∀ i x,m[i]? = some x->∃ cs,s.rp.rep w cs x []/\∀ j u,cs[j]? = some u->css.flatten[i * s.rp.size+j]? = some u:=fun i x hx=>by
  obtain ⟨cs,f,h1,h2,h3⟩:=hr.2.2 i x hx
  have h5:=flat_rep hf h3
  subst h5
  exact ⟨cs,h3,fun j u hj=>g2 i cs j u h1 hj⟩
 have hcapm:l.length * s.rp.size<=cap * s.rp.size:=Nat.mul_le_mul_right _ hlc
 have hul:us.toList.length=us.size:=Array.length_toList
 by_cases hroom:l.length+m.length<=cap
 ·have hfit:off+l.length * i.size+css.flatten.length<=us.size:=by
   have:=Nat.mul_le_mul_right s.rp.size hroom
   rw [Nat.add_mul] at this
   rw [hnl,hsize]; omega
  have hrun:=run_append_room_off (P:=P) t ty e i ht hi b0 off l.length cap us hg a m.length cc css.flatten (by rw [hnl,hsize]) hc hr.one hroom hfit
  rw [hsize] at hrun hfit
  refine ⟨_,_,b0,_,hrun,rfl,setRow_heap w b0 us _ e _ hg,⟨b0,off,cap,_,by rw [List.length_append],rfl,by rw [List.length_append]; exact hroom,hcm,?_,fun w' i x hx=>?_⟩,⟨rfl,rfl,rfl,by simp,fun k _ hk=>setRow_other w b0 k _ (fun e=>hk (by rw [e]))⟩,.inl rfl,rfl⟩
  ·simp only [List.size_toArray,List.length_append,List.length_take,List.length_drop,Array.length_toList]
   omega
  ·by_cases hil:i < l.length
   ·rw [List.getElem?_append_left hil] at hx
    obtain ⟨cs,h1,h2⟩:=hel w' i x hx
    refine ⟨cs,h1,fun j u hj=>?_⟩
    have h3:=h2 j u hj
    have hjl:j < s.rp.size:=by rw [<-s.rp.len h1]; exact (List.getElem?_eq_some_iff.1 hj).1
    have h4:(i+1) * s.rp.size<=l.length * s.rp.size:=Nat.mul_le_mul_right _ hil
    rw [Nat.add_mul,Nat.one_mul] at h4
    show (us.toList.take (off+l.length * s.rp.size)++css.flatten++us.toList.drop (off+l.length * s.rp.size+css.flatten.length))[off+i * s.rp.size+j]? = some u
    rw [List.append_assoc,List.getElem?_append_left (by rw [List.length_take,hul]; omega),List.getElem?_take,if_pos (by omega)]
    exact h3
   ·rw [List.getElem?_append_right (by omega)] at hx
    obtain ⟨cs,h1,h2⟩:=hnews _ x hx
    refine ⟨cs,flat_any hf h1,fun j u hj=>?_⟩
    have h3:=h2 j u hj
    have hlt:=(List.getElem?_eq_some_iff.1 h3).1
    have h4:l.length * s.rp.size<=i * s.rp.size:=Nat.mul_le_mul_right _ (by omega)
    have h5:(i - l.length) * s.rp.size=i * s.rp.size - l.length * s.rp.size:=Nat.sub_mul ..
    have htl:(List.take (off+l.length * s.rp.size) us.toList).length=off+l.length * s.rp.size:=by rw [List.length_take,hul]; omega
    show (us.toList.take (off+l.length * s.rp.size)++css.flatten++us.toList.drop (off+l.length * s.rp.size+css.flatten.length))[off+i * s.rp.size+j]? = some u
    rw [List.append_assoc,List.getElem?_append_right (by rw [htl]; omega),htl,List.getElem?_append_left (by omega)]
    rw [show off+i * s.rp.size+j - (off+l.length * s.rp.size)=(i - l.length) * s.rp.size+j by omega]
    exact h3
 ·let olds:=(us.toList.drop off).take (l.length * s.rp.size)
  have hol:olds.length=l.length * s.rp.size:=by simp only [olds,List.length_take,List.length_drop,Array.length_toList]; omega
  have holds:∀ j u,olds[j]? = some u->w.cell? ((⟨b0,off,none⟩:Addr).add j)=some u:=fun j u hj=>by
   simp only [olds,List.getElem?_take] at hj
   split at hj
   ·rw [List.getElem?_drop] at hj
    rw [addr_add,cell_of_row w _ _ us e (0,0) hg,<-Array.getElem?_toList]; exact hj
   ·cases hj
  have hrun:=run_append_grow (P:=P) (w:=w) t ty e i z ht hi hz ⟨b0,off,none⟩ l.length cap olds (by rw [hol,hsize]) holds a m.length cc css.flatten (by rw [hnl,hsize]) hc (by omega) (by simp only [maxLen] at h63; omega) (growslice_fits (by omega) hbytes)
  have hge:=grownCap_ge w (l.length+m.length) cap e
  have hle:grownCap w (l.length+m.length) cap e<=maxLen:=grownCap_le_maxLen w (l.length+m.length) cap e h63
  refine ⟨_,_,w.heap.size,_,hrun,rfl,heap_alloc_new w.drew _,⟨w.heap.size,0,_,_,by rw [List.length_append],rfl,by rw [List.length_append]; exact hge,hle,?_,fun w' i x hx=>?_⟩,⟨rfl,rfl,rfl,by simp,fun k hk _=>heap_alloc_old w.drew _ hk⟩,.inr rfl,rfl⟩
  ·simp only [Array.size_append,List.size_toArray,size_zeroCells,hzs,hol,hnl,<-Nat.add_mul]
   have:l.length+m.length+(grownCap w (l.length+m.length) cap e - (l.length+m.length))=grownCap w (l.length+m.length) cap e:=by omega
   rw [this]; omega
  ·simp only [Array.toList_append,Nat.zero_add]
   by_cases hil:i < l.length
   ·rw [List.getElem?_append_left hil] at hx
    obtain ⟨cs,h1,h2⟩:=hel w' i x hx
    refine ⟨cs,h1,fun j u hj=>?_⟩
    have h3:=h2 j u hj
    have hjl:j < s.rp.size:=by rw [<-s.rp.len h1]; exact (List.getElem?_eq_some_iff.1 hj).1
    have h4:(i+1) * s.rp.size<=l.length * s.rp.size:=Nat.mul_le_mul_right _ hil
    rw [Nat.add_mul,Nat.one_mul] at h4
    rw [List.append_assoc,List.getElem?_append_left (by omega)]
    simp only [olds]
    rw [List.getElem?_take,if_pos (by omega),List.getElem?_drop,<-Nat.add_assoc]
    exact h3
   ·rw [List.getElem?_append_right (by omega)] at hx
    obtain ⟨cs,h1,h2⟩:=hnews _ x hx
    refine ⟨cs,flat_any hf h1,fun j u hj=>?_⟩
    have h3:=h2 j u hj
    have hlt:=(List.getElem?_eq_some_iff.1 h3).1
    have h4:l.length * s.rp.size<=i * s.rp.size:=Nat.mul_le_mul_right _ (by omega)
    have h5:(i - l.length) * s.rp.size=i * s.rp.size - l.length * s.rp.size:=Nat.sub_mul ..
    rw [List.append_assoc,List.getElem?_append_right (by omega),hol,List.getElem?_append_left (by omega)]
    rw [show i * s.rp.size+j - l.length * s.rp.size=(i - l.length) * s.rp.size+j by omega]
    exact h3
section
variable (P:Program) (T:TypeId->Option Ty) (lt:Nat->Option AV) (lm:Nat->Option Blk) (nx:Nat) (K:Eff->Prop)
def queE (x:Operand):Option (Nat × Nat × TypeId × Lst) :=
 match ev lt x with
 | some (.row k ver)=>match lm k with
  | some (.ob none v (.que e t l))=>if v=ver then some (k,v,e,⟨t,l⟩) else none
  | _=>none
 | _=>none
def aLenQ (ty:TypeId) (x:Operand):Prop :=
 match queE lt lm x with
 | some (k,_,_,⟨_,l⟩)=>isSl (P.underlying ty)=true/\K ⟨.sc (.int .i64 l.length),[],[k]⟩
 | none=>aLen P lt lm K ty x
def aIdxQ (ty:TypeId) (x y:Operand):Prop :=
 match queE lt lm x with
 | some (k,v,_,⟨t,l⟩) =>
  match P.underlying ty,ev lt y with
  | some (.slice e'),some (.sc (.int .i64 z)) =>
   match T e' with
   | some t'=>t'.size=t.size/\z=0/\0 < l.length/\K ⟨.elo k v 0,[],[k]⟩
   | none=>False
  | _,_=>False
 | none=>aIndexAddr P T lt lm K ty x y
def aLoadQ (ty:TypeId) (x:Operand):Prop :=
 match ev lt x with
 | some (.elo k ver 0) =>
  match T ty,lm k with
  | some t,some (.ob none v (.que _ s l))=>v=ver/\0 < l.length/\s.flat=true/\t.size<=s.size/\K ⟨getC t (cel s (nth l 0)) 0,[],[k]⟩
  | _,_=>False
 | _=>aLoad T lt lm K ty x
def aSlcQ (ty:TypeId) (x:Operand) (lo hi mx:Option Operand):Prop :=
 match queE lt lm x with
 | some (k,v,e,⟨t,l⟩) =>
  match P.underlying ty,evo lt lo 0,hi,mx with
  | some (.slice e'),some z,none,none =>
   match T e' with
   | some t'=>t'.size=t.size/\0<=z/\z<=l.length/\K ⟨.row k (v+1),[(k,.ob none (v+1) (.que e t (l.drop z.toNat)))],[k]⟩
   | none=>False
  | _,_,_,_=>False
 | none=>aSlice P T lt lm K ty x lo hi mx
def aAppQ (ty:TypeId) (x y:Operand):Prop :=
 match queE lt lm x with
 | some (k,v,e,⟨s,l⟩) =>
  match P.underlying ty,ev lt y with
  | some (.slice e'),some vv =>
   match T e',bts P e',vv.data lm with
   | some t,some i,some d =>
    match lget s d with
    | some m=>e'=e/\s.flat=true/\s.size=t.size/\0 < m.length/\(l.length+m.length) * i<=140737488355328/\l.length+m.length<=9223372036854775807 ∧
     K ⟨.row k (v+1),[(k,.ob none (v+1) (.que e s (l++m)))],k :: vv.rows⟩
    | none=>False
   | _,_,_=>False
  | _,_=>False
 | none=>aAppend P T lt lm nx K ty x y
end
section
variable {P:Program} {T:TypeId->Option Ty} {c:Cx} [Nonempty (CG P c)] {lt:Nat->Option AV} {lm:Nat->Option Blk} {nx:Nat} {K:Eff->Prop} {o:Oper}
theorem queE_lm {x:Operand} {k v:Nat} {e:TypeId} {t:Ty} {l:List t.den} (h:queE lt lm x=some (k,v,e,⟨t,l⟩)):ev lt x=some (.row k v)/\lm k=some (.ob none v (.que e t l)):=by
 unfold queE at h
 split at h
 ·rename_i k' ver hv
  split at h
  ·rename_i v' e' t' l' hk
   split at h
   ·rename_i hvv
    injection h with h
    injection h with e1 h
    injection h with e2 h
    injection h with e3 h
    injection h with e4 e5
    subst e1 e2 e3 e4 hvv
    obtain rfl:=eq_of_heq e5
    exact ⟨hv,hk⟩
   ·cases h
  ·cases h
 ·cases h
theorem que_rep {σ:St} {Γ:Asg} {a:Act} {w:World} (hs:Sim c σ Γ a w) {x:Operand} {k v:Nat} {e:TypeId} {t:Ty} {l:List t.den} (hx:x ∈ o.op.operands.toList) (hl:∀ t ∈ opnds o,look σ.tmps t=lt t) (hm:look σ.mem k=lm k)
  (h:ev lt x=some (.row k v)) (hk:lm k=some (.ob none v (.que e t l))):look σ.mem k=some (.ob none v (.que e t l))/\a.eval x=Γ.hd k/\∃ b off cap us,Γ.hd k=.slice (some ⟨b,off,none⟩) l.length cap/\w.heap[b]? = some (.cells us e (0,0))/\l.length<=cap/\cap<=maxLen/\off+cap * t.rp.size<=us.size ∧
   (∀ w i x,l[i]? = some x->∃ cs,t.rp.rep w cs x []/\∀ j u,cs[j]? = some u->us.toList[off+i * t.rp.size+j]? = some u):=by
 have hk':=hm.trans hk
 obtain ⟨_,B,hB,hbh⟩:=(op_ev hs hl hx h:VRep c σ.mem Γ w _ (a.eval x))
 rw [hk'] at hB
 injection hB with hB
 subst hB
 obtain ⟨b,ob,h1,_,h3,b',off,cap,us,e1,rfl,h4,h5,h6,h7⟩:=hs.mm _ _ hk'
 have e1':Γ.hd k=.slice (some ⟨b',off,none⟩) l.length cap:=e1
 have h1':(Γ.hd k).ownBlock=some b:=h1
 rw [e1'] at h1'
 have h1':some b'=some b:=h1'
 injection h1' with h1'
 subst h1'
 exact ⟨hk',hbh.2 rfl,_,off,cap,us,e1',h3,h4,h5,h6,h7⟩
theorem aLenQ_ok {x:Operand} {ty:TypeId} (ho:o.op=.call { callee:=.builtin .len,args:=#[x],argTypes:=#[ty] }) (h:aLenQ P lt lm K ty x):∃ e,K e/\SOK P c lt lm nx o e:=by
 unfold aLenQ at h
 split at h
 ·rename_i k v e t l hq
  obtain ⟨hx,hk⟩:=queE_lm hq
  refine ⟨_,h.2,SOK.pure fun σ Γ ac w hs hl hm=>?_⟩
  obtain ⟨_,e1,b,off,cap,us,e2,_,h4,h5,_⟩:=que_rep (o:=o) hs (by simp [ho,Op.operands,Call.operands]) hl (hm k (by simp)) hx hk
  obtain ⟨e',he⟩:=isSl_ex h.1
  have hr:(Builtin.len_ #[ty] o.type #[.slice (some ⟨b,off,none⟩) l.length cap]).run P w=.ok (.int .i64 l.length) w:=by simp [Builtin.len_,run_underlying he,goInt]
  refine ⟨_,by simp [execOp,ho,resolve,invoke,builtin,e1,e2,hr,Result.andThen]<;>rfl,rfl,rfl,?_⟩
  simp only [maxLen] at h5
  constructor<;>omega
 ·exact aLen_ok ho h
theorem aIdxQ_ok (hT:TabOK P T) {ty:TypeId} {x y:Operand} (ho:o.op=.indexAddr ty x y) (h:aIdxQ P T lt lm K ty x y):∃ e,K e/\SOK P c lt lm nx o e:=by
 unfold aIdxQ at h
 split at h
 ·rename_i k v e t l hq
  obtain ⟨hx,hk⟩:=queE_lm hq
  split at h
  ·rename_i e' z hu hy
   split at h
   ·rename_i t' ht
    obtain ⟨hsz,rfl,hl0,hK⟩:=h
    refine ⟨_,hK,SOK.pure fun σ Γ ac w hs hl hm=>?_⟩
    obtain ⟨hk',e1,b,off,cap,us,e2,_,h4,h5,_⟩:=que_rep (o:=o) hs (by simp [ho,Op.operands]) hl (hm k (by simp)) hx hk
    have e3:ac.eval y=_:=(op_ev hs hl (by simp [ho,Op.operands]) hy:VRep c σ.mem Γ w _ (ac.eval y)).1
    have hsz2:=(hT e' t' ht).sizeOf w
    refine ⟨.pointer (some ⟨b,off,none⟩),?_,rfl,_,hk',fun x2 v2 d2 he=>?_⟩
    ·simp only [execOp,ho,e1,e2,e3,Instr.indexAt,asIntOf,Sem.run_bind,Sem.run_pure,Result.andThen_ok,run_underlying hu,hsz2]
     rw [if_pos ⟨Int.le_refl _,by omega⟩]
     simp [hsz2,addr_add]
    ·injection he with q1 q2 q3
     subst q1 q2
     exact ⟨Nat.le_refl _,fun _=>⟨b,off,_,cap,e2,by rw [Nat.add_zero]⟩⟩
   ·exact h.elim
  ·exact h.elim
 ·exact aIndexAddr_ok hT ho h
theorem aLoadQ_ok (hT:TabOK P T) {ty:TypeId} {x:Operand} (ho:o.op=.load ty x) (h:aLoadQ T lt lm K ty x):∃ e,K e/\SOK P c lt lm nx o e:=by
 unfold aLoadQ at h
 split at h
 ·rename_i k ver hx
  split at h
  ·rename_i t v e s l ht hk
   obtain ⟨rfl,hl0,hf,hle,hK⟩:=h
   refine ⟨_,hK,SOK.pure fun σ Γ a w hs hl hm=>?_⟩
   have hk':=(hm k (by simp)).trans hk
   obtain ⟨_,B,hB,hbh⟩:=(op_ev hs hl (by simp [ho,Op.operands]) hx:VRep c σ.mem Γ w _ (a.eval x))
   rw [hk'] at hB
   injection hB with hB
   subst hB
   obtain ⟨_,hbh⟩:=hbh _ _ _ rfl
   obtain ⟨g,off,n,cap,q1,q2⟩:=hbh rfl
   obtain ⟨b,ob,h1,_,h3,b',off',cap',us,e1,rfl,h4,h5,h6,h7⟩:=hs.mm _ _ hk'
   rw [e1] at h1 q1
   injection q1 with q1 _ _
   injection q1 with q1
   injection q1 with q1 q3 _
   have h1:some b'=some b:=h1
   injection h1 with h1
   subst h1 q1 q3
   obtain ⟨cs,hr,hcs⟩:=h7 w 0 l[0] (List.getElem?_eq_getElem hl0)
   have hlen:=s.rp.len hr
   rw [s.rp_size] at hlen
   have hc:=cel_rep (c:=c) (M:=σ.mem) (Γ:=Γ) hr (fun b hb=>by cases hb)
   have hrun:=run_loadVar (P:=P) (hT ty t ht) (w:=w) (b:=b') (off:=off') (us:=(cs.drop 0).take t.size) (fun j u hj=>by
    rw [List.getElem?_take] at hj
    split at hj
    ·have:=hcs j u (by simpa using hj)
     rw [Nat.zero_mul,Nat.add_zero] at this
     rw [cell_of_row w _ _ us e (0,0) h3,<-Array.getElem?_toList]; exact this
    ·cases hj) (by rw [List.length_take,List.length_drop]; omega)
   have hn:nth l 0=l[0]:=nth_lt hl0
   have hcl:=hc.len
   have hg:=getC_rep (t:=t) (off:=0) hc (by rw [hcl]; omega)
   refine ⟨_,?_,by rw [hn]; exact arep_vrep hg⟩
   rw [Nat.add_zero] at q2
   simp only [execOp,ho,q2,Instr.loadAt,Instr.sureAddr,Sem.run_bind,Sem.run_pure,Result.andThen_ok,hrun]
   cases ha:t.isAgg with
   | true=>rfl
   | false =>
    simp only [Bool.false_eq_true,if_false]
    have:=t.pos; rw [t.rp_size] at this
    rw [List.getD_eq_getElem?_getD,List.getElem?_take,if_pos this,List.getElem?_drop,Nat.add_zero,List.getD_eq_getElem?_getD]
  ·exact h.elim
 ·exact aLoad_ok hT ho h
theorem aSlcQ_ok (hT:TabOK P T) {ty:TypeId} {x:Operand} {lo hi mx:Option Operand} (ho:o.op=.slice ty x lo hi mx) (h:aSlcQ P T lt lm K ty x lo hi mx):∃ e,K e/\SOK P c lt lm nx o e:=by
 unfold aSlcQ at h
 split at h
 ·rename_i k v e t l hq
  obtain ⟨hx,hk⟩:=queE_lm hq
  split at h
  ·rename_i e' z hu hz
   split at h
   ·rename_i t' ht
    obtain ⟨hsz,h0,hzl,hK⟩:=h
    refine ⟨_,hK,SOK.one (.inr (by simp)) fun σ Γ a w hs hl hm _=>?_⟩
    obtain ⟨hk',e1,b,off,cap,us,e2,h3,h4,h5,h6,h7⟩:=que_rep (o:=o) hs (by simp [ho,Op.operands]) hl (hm k (by simp)) hx hk
    have hrun:=slice_run (s:=t) (hT e' t' ht) hsz ho hu hs hl (e1.trans e2) h4 hz (hi:=none) (zb:=l.length) rfl h0 (by omega) (Int.le_refl _)
    have hdl:(l.drop z.toNat).length=l.length - z.toNat:=List.length_drop
    have hzn:z.toNat<=l.length:=by omega
    have hcm:=Nat.sub_mul cap z.toNat t.rp.size
    have hcz:z.toNat * t.rp.size<=cap * t.rp.size:=Nat.mul_le_mul_right _ (by omega)
    have hgr:∃ off',(if cap=z.toNat then (some ⟨b,off,none⟩:Option Addr) else (some ⟨b,off,none⟩:Option Addr).map (·.add (z.toNat * t.rp.size)))=some ⟨b,off',none⟩/\(cap=z.toNat\/off'=off+z.toNat * t.rp.size)/\off'<=off+z.toNat * t.rp.size:=by
     by_cases hcc:cap=z.toNat
     ·exact ⟨off,by rw [if_pos hcc],.inl hcc,by omega⟩
     ·exact ⟨off+z.toNat * t.rp.size,by rw [if_neg hcc,Option.map_some,addr_add],.inr rfl,Nat.le_refl _⟩
    obtain ⟨off',hp,hoff,hole⟩:=hgr
    rw [hp] at hrun
    have hrun':(execOp a.eval o).run P w=.ok (.value (.slice (some ⟨b,off',none⟩) (l.drop z.toNat).length (cap - z.toNat))) w:=by rw [hrun,hdl,Int.toNat_natCast]
    have hI:(ObD.que e t (l.drop z.toNat)).I (.slice (some ⟨b,off',none⟩) (l.drop z.toNat).length (cap - z.toNat)) (.cells us e (0,0)):=by
     refine ⟨b,off',_,us,rfl,rfl,by rw [hdl]; omega,by omega,by omega,fun w' i y hy=>?_⟩
     rw [List.getElem?_drop] at hy
     obtain ⟨cs,q1,q2⟩:=h7 w' _ y hy
     refine ⟨cs,q1,fun j u hj=>?_⟩
     have hlt:=(List.getElem?_eq_some_iff.1 hy).1
     rcases hoff with hcc|rfl
     ·omega
     ·have:=q2 j u hj
      rw [Nat.add_mul] at this
      rw [show off+z.toNat * t.rp.size+i * t.rp.size+j=off+(z.toNat * t.rp.size+i * t.rp.size)+j by omega]
      exact this
    have hob:oblk (.que e t l) (Γ.hd k)=some b:=by rw [e2]; rfl
    exact ⟨_,w,Γ.setR k _ [],.inl hrun',hs.updOb (d':=.que e t (l.drop z.toNat)) (b:=b) hk' rfl h3 hI (World.grownBy.refl w _) (.inl hob),rfl,_,look_self ..,Nat.le_refl _,fun _=>(Asg.setR_hd ..).symm⟩
   ·exact h.elim
  ·exact h.elim
 ·exact aSlice_ok hT ho h
theorem aAppQ_ok (hT:TabOK P T) (hnx:∀ k,nx<=k->lm k=none) {ty:TypeId} {x y:Operand} (ho:o.op=.call { callee:=.builtin .append,args:=#[x,y],argTypes:=#[ty,ty] }) (h:aAppQ P T lt lm nx K ty x y):∃ e,K e/\SOK P c lt lm nx o e:=by
 unfold aAppQ at h
 split at h
 ·rename_i k v e s l hq
  obtain ⟨hx,hk⟩:=queE_lm hq
  split at h
  ·rename_i e' vv hu hy
   split at h
   ·rename_i t i d ht hi hdat
    split at h
    rotate_left
    ·exact h.elim
    rename_i m hmg
    obtain rfl:=lget_eq hmg
    obtain ⟨rfl,hf,hss,hm0,hb1,hb2,hK⟩:=h
    obtain ⟨i',dd,hi1,hi2,hi3,_,_⟩:=hT _ _ ht
    simp only [bts,hi1,Option.map_some,Option.some.injEq] at hi
    subst hi
    refine ⟨_,hK,SOK.one (.inr (by simp)) fun σ Γ a w hs hl hm _=>?_⟩
    obtain ⟨hk',e1,b,off,cap,us,e2,h3,h4,h5,h6,h7⟩:=que_rep (o:=o) hs (by simp [ho,Op.operands,Call.operands]) hl (hm k (by simp)) hx hk
    have hv:=op_ev hs hl (x:=y) (by simp [ho,Op.operands,Call.operands]) hy
    obtain ⟨ad,cc,css,fps2,hu2,hr2,_,hn2,hc2⟩:=data_rows hs hv (fun j hj=>hm j (List.mem_cons_of_mem _ hj)) hdat
    cases ad with
    | none=>have:=hn2 rfl; subst this; simp at hm0
    | some ad =>
     have hsz':=s.rp_size
     have hob:oblk (.que e' s l) (Γ.hd k)=some b:=by rw [e2]; rfl
     obtain ⟨v',w',b',o',r1,r2,r3,r4,r5,r6,r7⟩:=run_appendQ (P:=P) (s:=s) (cc:=cc) ty o.type e' i' t.zv hu hi1 hi3 (by rw [hi2,hsz',hss]) (by rw [zv_size,hsz',hss]) hf ⟨b,off,cap,us,e2,rfl,h4,h5,h6,h7⟩ hob h3 hr2 (hc2 ad rfl) (by simp only [maxLen]; exact hb2) hb1
     refine ⟨v',w',Γ.setR k v' [],.inl ?_,hs.updOb (d':=.que e' s (l++m)) (b:=b') hk' r2 r3 r4 (by rw [hob]; exact r5) (by rcases r6 with rfl|rfl; exact .inl hob; exact .inr (Nat.le_refl _)),r7,_,look_self ..,Nat.le_refl _,fun _=>(Asg.setR_hd ..).symm⟩
     simp only [execOp,ho,resolve,invoke,builtin,Sem.run_bind,Sem.run_pure,Result.andThen_ok,List.map_toArray,List.map_cons,List.map_nil,e1,hu2,r1]
   ·exact h.elim
  ·exact h.elim
 ·exact aAppend_ok hT hnx ho h
end
end Go.Proofs.YtcbionahcldlnaaGreat.DW

set_option maxRecDepth 10000
namespace Go.Proofs.YtcbionahcldlnaaGreat.DW
open Go.RowKit
def bs (l:List UInt8):ByteArray:=⟨l.toArray⟩
theorem bs_size (l:List UInt8):(bs l).size=l.length:=by simp [bs,ByteArray.size]
theorem bs_list (l:List UInt8):(bs l).data.toList=l:=by simp [bs]
theorem bs_app (l m:List UInt8):bs l++bs m=bs (l++m):=by
 apply ByteArray.ext
 simp [bs,ByteArray.data_append]
theorem bs_ext (l:List UInt8) (i j:Nat):(bs l).extract i j=bs ((l.take j).drop i):=by
 apply ByteArray.ext
 simp [bs,ByteArray.data_extract,List.drop_take]
theorem bs_beq (l m:List UInt8):((bs l).toList == (bs m).toList)=decide (l=m):=by
 rw [bs,bs,ByteArray.toList_mk,ByteArray.toList_mk]
 by_cases h:l=m
 ·simp [h]
 ·simp [h]
theorem mk_bs (l:List UInt8):ByteArray.mk l.toArray=bs l:=(rfl)
theorem emp_bs:ByteArray.empty=bs []:=(rfl)
def byt (s:ByteArray) (i:Nat):Int:=((s.data.toList.getD i 0).toNat:Int)
theorem byt_bs (l:List UInt8) (i:Nat):byt (bs l) i=((l.getD i 0).toNat:Int):=by rw [byt,bs_list]
theorem byt_range (s:ByteArray) (i:Nat):0<=byt s i/\byt s i<=255:=by
 have:=(s.data.toList.getD i 0).toNat_lt
 unfold byt; constructor<;>omega
def toI (s:ByteArray):List Int:=s.data.toList.map fun b=>(b.toNat:Int)
def ofI (l:List Int):ByteArray:=bs (l.map fun n=>UInt8.ofNat n.toNat)
theorem ofI_bs (l:List Int):ofI l=bs (l.map fun n=>UInt8.ofNat n.toNat):=(rfl)
theorem ofI_fold (ns:List Int):∀ s:ByteArray,ns.foldl (fun r n=>r.push (UInt8.ofNat n.toNat)) s=s++ofI ns:=by
 induction ns with
 | nil=>intro s; apply ByteArray.ext; simp [ofI,bs,ByteArray.data_append]
 | cons n ns ih =>
  intro s
  rw [List.foldl_cons,ih]
  apply ByteArray.ext
  simp [ofI,bs,ByteArray.data_append,ByteArray.data_push]
section
variable (P:Program) (T:TypeId->Option Ty) (lt:Nat->Option AV) (lm:Nat->Option Blk) (nx:Nat) (K:Eff->Prop)
def aIdxS (ty:TypeId) (x y:Operand):Prop :=
 match ev lt x,ev lt y with
 | some (.sc (.string s)),some (.sc (.int .i64 z))=>P.underlying ty=some .string/\0<=z/\z < s.size/\K (.val (.sc (.int .u8 (byt s z.toNat))))
 | _,_=>False
def aSlcS (ty:TypeId) (x:Operand) (lo hi mx:Option Operand):Prop :=
 match ev lt x,mx with
 | some (.sc (.string s)),none =>
  match evo lt lo 0,evo lt hi s.size with
  | some a,some b=>0<=a/\a<=b/\b<=s.size/\K (.val (.sc (.string (s.extract a.toNat b.toNat))))
  | _,_=>False
 | _,_=>False
def aConvB (v:AV):Prop :=
 match v.data lm with
 | some ⟨.u8,l⟩=>K ⟨.sc (.string (ofI l)),[],v.rows⟩
 | _=>False
def isU8:Option TypeDesc->Bool
 | some (.int .u8)=>true
 | _=>false
def aConvS (s d:TypeId) (x:Operand):Prop :=
 match P.underlying s,P.underlying d,ev lt x with
 | some (.slice e),some .string,some v=>isU8 (P.underlying e)=true/\aConvB lm K v
 | some .string,some (.slice e),some (.sc (.string b))=>isU8 (P.underlying e)=true/\K (.val (.sl .u8 (toI b)))
 | _,_,_=>aConv P lt K s d x
end
theorem isU8_eq {d:Option TypeDesc} (h:isU8 d=true):d=some (.int .u8):=by
 unfold isU8 at h
 split at h
 ·rfl
 ·cases h
section
variable {P:Program} {T:TypeId->Option Ty} {c:Cx} {lt:Nat->Option AV} {lm:Nat->Option Blk} {nx:Nat} {K:Eff->Prop} {o:Oper}
theorem aIdxS_ok {ty:TypeId} {x y:Operand} (ho:o.op=.index ty x y) (h:aIdxS P lt K ty x y):∃ e,K e/\SOK P c lt lm nx o e:=by
 unfold aIdxS at h
 split at h
 ·rename_i s z hx hy
  obtain ⟨hu,h0,h1,hK⟩:=h
  refine ⟨_,hK,SOK.pure fun σ Γ a w hs hl _=>⟨.int .u8 (byt s z.toNat),?_,rfl,rfl,byt_range _ _⟩⟩
  have e1:a.eval x=_:=(op_ev hs hl (by simp [ho,Op.operands]) hx:VRep c σ.mem Γ w _ (a.eval x)).1
  have e2:a.eval y=_:=(op_ev hs hl (by simp [ho,Op.operands]) hy:VRep c σ.mem Γ w _ (a.eval y)).1
  have hlt:z.toNat < s.size:=by omega
  have hb:((s[z.toNat]'hlt).toNat:Int)=byt s z.toNat:=by
   have:s.data.toList.getD z.toNat 0=s[z.toNat]'hlt:=by
    have hl2:z.toNat < s.data.toList.length:=by rw [Array.length_toList]; exact hlt
    rw [List.getD_eq_getElem?_getD,List.getElem?_eq_getElem hl2,Option.getD_some,Array.getElem_toList]
    rfl
   rw [byt,this]
  simp only [execOp,ho,e1,e2,Sem.run_bind,run_index_string w ty s .i64 z hu,dif_pos (And.intro h0 h1),Result.andThen_ok,Sem.run_pure,hb]
 ·exact h.elim
theorem run_slcS {w:World} {ty:TypeId} (hu:P.underlying ty=some .string) (s:ByteArray) (lo hi:Option Value) (a b:Int) (hlo:(lo=none/\a=0)\/lo=some (.int .i64 a)) (hhi:(hi=none/\b=s.size)\/hi=some (.int .i64 b)) (h0:0<=a) (h1:a<=b) (h2:b<=s.size) :
  (Instr.slice ty (.string s) lo hi none).run P w=.ok (.string (s.extract a.toNat b.toNat)) w:=by
 rcases hlo with ⟨rfl,rfl⟩|rfl<;>rcases hhi with ⟨rfl,rfl⟩|rfl
 ·rw [run_slice_string_all w ty s hu]; simp
 ·rw [run_slice_string_to_if w ty s .i64 b hu,if_pos ⟨by omega,h2⟩]; simp
 ·rw [run_slice_string_from_if w ty s .i64 a hu,if_pos ⟨h0,by omega⟩]; simp
 ·exact run_slice_string w ty s .i64 .i64 a b hu h0 h1 h2
theorem aSlcS_ok {ty:TypeId} {x:Operand} {lo hi mx:Option Operand} (hu:P.underlying ty=some .string) (ho:o.op=.slice ty x lo hi mx) (h:aSlcS lt K ty x lo hi mx):∃ e,K e/\SOK P c lt lm nx o e:=by
 unfold aSlcS at h
 split at h
 ·rename_i s hx
  split at h
  ·rename_i za zb hlo hhi
   obtain ⟨h0,h1,h2,hK⟩:=h
   refine ⟨_,hK,SOK.pure fun σ Γ a w hs hl _=>?_⟩
   obtain ⟨e1,_,hsz⟩:=(op_ev hs hl (by simp [ho,Op.operands]) hx:VRep c σ.mem Γ w _ (a.eval x))
   have ho1:=evo_rep hs (x:=lo) (z:=0) (lt:=lt) (fun y hy t ht=>hl t (mem_opnds (by simp [ho,Op.operands,hy]) ht)) hlo
   have ho2:=evo_rep hs (x:=hi) (z:=s.size) (lt:=lt) (fun y hy t ht=>hl t (mem_opnds (by simp [ho,Op.operands,hy]) ht)) hhi
   refine ⟨.string (s.extract za.toNat zb.toNat),?_,rfl,rfl,?_⟩
   ·have e3:(lo.map a.eval=none/\za=0)\/lo.map a.eval=some (.int .i64 za):=by
     rcases ho1 with ⟨rfl,h⟩|⟨y,rfl,h⟩
     ·exact .inl ⟨rfl,h⟩
     ·exact .inr (by rw [Option.map_some,h])
    have e4:(hi.map a.eval=none/\zb=s.size)\/hi.map a.eval=some (.int .i64 zb):=by
     rcases ho2 with ⟨rfl,h⟩|⟨y,rfl,h⟩
     ·exact .inl ⟨rfl,h⟩
     ·exact .inr (by rw [Option.map_some,h])
    simp only [execOp,ho,e1,Option.map_none,Instr.sliceAt,run_underlying hu,Sem.run_bind,run_slcS hu s _ _ za zb e3 e4 h0 h1 h2,Result.andThen_ok,Sem.run_pure]
   ·show (s.extract za.toNat zb.toNat).size<=maxLen
    have:s.size<=maxLen:=hsz
    rw [ByteArray.size_extract]; omega
  ·exact h.elim
 ·exact h.elim
theorem aConvS_ok {s d:TypeId} {x:Operand} (ho:o.op=.convert s d x) (h:aConvS P lt lm K s d x):∃ e,K e/\SOK P c lt lm nx o e:=by
 unfold aConvS at h
 split at h
 ·rename_i e v hs0 hd0 hx
  obtain ⟨hu,h⟩:=h
  have hu:=isU8_eq hu
  unfold aConvB at h
  split at h
  ·rename_i l hdat
   refine ⟨_,h,SOK.pure fun σ Γ a w hs hl hm=>?_⟩
   have hv:VRep c σ.mem Γ w v (a.eval x):=op_ev hs hl (by simp [ho,Op.operands]) hx
   have hd':v.data (look σ.mem)=some ⟨.u8,l⟩:=by
    rw [<-hdat]
    cases v<;>first|rfl|skip
    rename_i k ver
    show (look σ.mem k).bind _=(lm k).bind _
    rw [hm k (List.mem_cons_self)]
   have hcv:CRep c σ.mem Γ w v (a.eval x):=by
    cases v<;>first|exact hv|cases hdat
   obtain ⟨fp,hr,_⟩:=hs.sliceRep hcv hd'
   obtain ⟨ad,cc,e1,hlc,hcm,hel⟩:=hr
   injection e1 with e1
   refine ⟨.string (ofI l),?_,rfl,rfl,?_⟩
   ·have key:(Conv.bytesToString (a.eval x)).run P w=.ok (.string (ofI l)) w:=by
     rw [e1]
     rcases hel with ⟨rfl,rfl⟩|⟨b,off,fps,_,rfl,_,hel⟩
     ·cases ad with
      | none=>simp [Conv.bytesToString,ofI,bs,Sem.run_pure]; rfl
      | some ad =>
       have:=run_bytesToString (P:=P) w ad 0 cc [] (run_loadCells_list (P:=P) w ad [] (fun j v hj=>by simp at hj))
       exact this
     ·have:=run_bytesToString (P:=P) w ⟨b,off,none⟩ l.length cc l (by
       have h2:=run_loadCells_list (P:=P) w ⟨b,off,none⟩ (l.map (Value.int .u8)) (fun j u hj=>by
        rw [List.getElem?_map] at hj
        cases hlj:l[j]? with
        | none=>rw [hlj] at hj; cases hj
        | some n =>
         rw [hlj] at hj
         injection hj with hj
         subst hj
         obtain ⟨f,cs,_,⟨hcs,_⟩,hc⟩:=hel.2 j n hlj
         have:=hc 0 (.int .u8 n) (by rw [hcs]; rfl)
         have hsz:(Ty.u8).rp.size=1:=rfl
         rw [hsz] at this
         have hj2:w.cell? ⟨b,off+j,none⟩=some (.int .u8 n):=by simpa using this
         rw [addr_add]; exact hj2)
       simpa using h2)
      rw [this,ofI_fold]
      have:ByteArray.empty++ofI l=ofI l:=by apply ByteArray.ext; simp [ByteArray.data_append]
      rw [this]
    have hrun:(convert s d (a.eval x)).run P w=.ok (.string (ofI l)) w:=by
     rw [e1] at key ⊢
     simp only [convert,Sem.run_bind,run_underlying hs0,run_underlying hd0,Result.andThen_ok,run_underlying hu]
     exact key
    simp only [execOp,ho,Sem.run_bind,hrun,Result.andThen_ok,Sem.run_pure]
   ·show (ofI l).size<=maxLen
    rw [ofI,bs_size,List.length_map]; omega
  ·exact h.elim
 ·rename_i e b hs0 hd0 hx
  obtain ⟨hu,hK⟩:=h
  have hu:=isU8_eq hu
  refine ⟨_,hK,⟨fun p hp=>(by cases hp),fun σ Γ a w hs hl hm hn hd K' Q hK'=>?_⟩⟩
  obtain ⟨e1,_,hsz⟩:=(op_ev hs hl (by simp [ho,Op.operands]) hx:VRep c σ.mem Γ w _ (a.eval x))
  have hrun:=Lib.run_convert_string_bytes (P:=P) w s d e b hs0 hd0 hu
  have hb:Below w.heap.size w (Lib.bytesWorld w e b) :=
   ⟨by simp [Lib.bytesWorld,World.freeze,World.alloc,World.drew,-World.alloc_eq,-World.drew_eq],by simp [Lib.bytesWorld,World.freeze,World.alloc,World.drew,-World.alloc_eq,-World.drew_eq],by simp [Lib.bytesWorld,World.freeze,World.alloc,World.drew,-World.alloc_eq,-World.drew_eq],by rw [Lib.bytesWorld_size]; omega,fun j hj=>Lib.bytesWorld_at_old w e b j hj⟩
  have hs':=hs.frame hb
  have hlen:(toI b).length=b.size:=by rw [toI,List.length_map,Array.length_toList]; rfl
  have hrep:(Rp.slice (Ty.u8).rp (Ty.u8).pos).rep (Lib.bytesWorld w e b) [.slice (some ⟨w.heap.size,0,none⟩) b.size (grownCap w b.size 0 e)] (toI b) (if b.size=0 then [] else w.heap.size :: (List.replicate b.size ([]:List Nat)).flatten):=by
   refine ⟨some ⟨w.heap.size,0,none⟩,grownCap w b.size 0 e,by rw [hlen],by rw [hlen]; exact grownCap_ge ..,grownCap_le_maxLen w b.size 0 e hsz,?_⟩
   by_cases h0:b.size=0
   ·refine .inl ⟨List.eq_nil_of_length_eq_zero (by rw [hlen]; exact h0),by rw [if_pos h0]⟩
   ·refine .inr ⟨w.heap.size,0,List.replicate b.size [],fun h=>h0 (by rw [<-hlen,h]; rfl),rfl,by rw [if_neg h0],by rw [List.length_replicate,hlen],fun i n hi=>?_⟩
    have hib:i < b.size:=by rw [<-hlen]; exact (List.getElem?_eq_some_iff.1 hi).1
    have hn:n=byt b i:=by
     have h2:i < b.data.toList.length:=by rw [Array.length_toList]; exact hib
     simp only [toI,List.getElem?_map,List.getElem?_eq_getElem h2,Option.map_some,Option.some.injEq] at hi
     rw [byt,List.getD_eq_getElem?_getD,List.getElem?_eq_getElem h2]
     exact hi.symm
    refine ⟨[],[.int .u8 n],by rw [List.getElem?_replicate,if_pos hib],⟨rfl,rfl,hn ▸ byt_range b i⟩,fun j u hj=>?_⟩
    cases j with
    | zero =>
     injection hj with hj
     subst hj
     have:=Lib.bytesWorld_cell w e b i hib
     rw [hn]
     simpa [Ty.rp,Ty.rpp,RpU8,byt] using this
    | succ j=>simp at hj
  have hgd:∀ x ∈ (if b.size=0 then [] else w.heap.size :: (List.replicate b.size ([]:List Nat)).flatten),Gd c σ.mem Γ x:=by
   intro x hx
   split at hx
   ·cases hx
   ·have:x=w.heap.size:=by simpa using hx
    subst this
    exact ⟨.inr hs.hb,fun ⟨k,B,hB,hmb⟩=>by have:=(hs.mut_lt hB hmb).2; omega⟩
  refine wp_value (u:=.slice (some ⟨w.heap.size,0,none⟩) b.size (grownCap w b.size 0 e)) (w':=Lib.bytesWorld w e b) (by simp only [execOp,ho,e1,Sem.run_bind,hrun,Result.andThen_ok,Sem.run_pure]) (hK' Γ _ _ ?_)
  have:=hs'.put (d:=o.dst) (v:=.sl .u8 (toI b)) (u:=.slice (some ⟨w.heap.size,0,none⟩) b.size (grownCap w b.size 0 e)) ⟨_,hrep,hgd⟩ (fun x hx=>hd x hx)
  unfold St.app
  cases hdst:o.dst<;>simp only [hdst,St.put] at this ⊢<;>exact this
 ·exact aConv_ok ho h
end
section
variable (P:Program) (T:TypeId->Option Ty) (lt:Nat->Option AV) (lm:Nat->Option Blk) (nx:Nat) (K:Eff->Prop)
def aStep (o:Oper):Prop :=
 match o.op with
 | .move x=>aMove lt K x
 | .assign x=>aMove lt K x
 | .pick x y z=>aPick lt K x y z
 | .box _ x=>aBox lt nx K x
 | .alloc t=>aAlloc T nx K t
 | .load t x=>aLoadQ T lt lm K t x
 | .store t x y =>
  match ev lt x with
  | some (.elm ..)=>aStoreRow T lt lm K t x y
  | some (.mel ..)=>aStoreMine T lt lm K t x y
  | _=>aStoreBox T lt lm K t x y
 | .fieldAddr s x f=>aFieldAddr P T lt lm K s x f
 | .field s x f=>aField P T lt K s x f
 | .indexAddr t x y =>
  match P.underlying t with
  | some (.array n e)=>aIndexArr T lt K n e x y
  | _=>aIdxQ P T lt lm K t x y
 | .nilCheck x=>aNilChk lt K x
 | .makeMap t r=>aNewMap T nx K t r
 | .lookup t x y c=>aLook P lt lm K t x y c
 | .mapUpdate t x y z=>aUpd P lt lm K t x y z
 | .insert t x y z=>aUpd P lt lm K t x y z
 | .binOp op t x y _ =>
  match y with
  | .const (.slice none 0 0)=>aNil P lt lm K op t x
  | _=>aBin P T lt K op t x y
 | .unOp op _ x=>aUn lt K op x
 | .convert s d x=>aConvS P lt lm K s d x
 | .index t x y=>aIdxS P lt K t x y
 | .extract x i=>aExtract lt K x i
 | .build t ps =>
  match P.underlying t with
  | some (.array _ e)=>(T e).isSome=true/\aBuildArr T K t ps
  | _=>aBuild P T lt K t ps
 | .buildSlice t n ps=>aBuildSlice P T lt lm nx K t n ps
 | .makeSlice t x y=>aMakeSlice P T lt nx K t x y
 | .slice t x lo hi mx =>
  match P.underlying t with
  | some .string=>aSlcS lt K t x lo hi mx
  | _=>aSlcQ P T lt lm K t x lo hi mx
 | .makeFunc fn f c =>
  match c.toList with
  | []=>f=#[]/\K (.val (.sc (.func fn #[] #[])))
  | _=>f=#[]/\aMakeClo lt K fn c.toList
 | .call { callee,args,argTypes } =>
  match callee with
  | .value f=>aCall2 P lt lm nx K f args
  | .builtin b =>
   match b,args.toList,argTypes.toList with
   | .len,[x],[t]=>aLenQ P lt lm K t x
   | .append,[x,y],[t,u]=>t=u/\aAppQ P T lt lm nx K t x y
   | .min,_,_=>aMin lt K args
   | .max,_,_=>aMax lt K args
   | _,_,_=>False
  | _=>False
 | _=>False
end
theorem toList1 {α:Type} {a:Array α} {l:List α} (h:a.toList=l):a=l.toArray:=Array.toList_inj.1 (by rw [h])
theorem aStep_ok {P:Program} {T:TypeId->Option Ty} {c:Cx} [Nonempty (CG P c)] {lt:Nat->Option AV} {lm:Nat->Option Blk} {nx:Nat} {K:Eff->Prop} {o:Oper} (hT:TabOK P T) (hnx:∀ k,nx<=k->lm k=none) (h:aStep P T lt lm nx K o):∃ e,K e/\SOK P c lt lm nx o e:=by
 unfold aStep at h
 split at h
 ·rename_i x ho; exact aMove_ok (.inl ho) h
 ·rename_i x ho; exact aMove_ok (.inr ho) h
 ·rename_i x y z ho; exact aPick_ok ho h
 ·rename_i t x ho; exact aBox_ok ho h
 ·rename_i t ho; exact aAlloc_ok hT ho h
 ·rename_i t x ho; exact aLoadQ_ok hT ho h
 ·rename_i t x y ho
  split at h
  ·exact aStoreRow_ok hT ho h
  ·exact aStoreMine_ok hT ho h
  ·exact aStoreBox_ok hT ho h
 ·rename_i s x f ho; exact aFieldAddr_ok hT ho h
 ·rename_i s x f ho; exact aField_ok hT ho h
 ·rename_i t x y ho
  split at h
  ·rename_i n e hu; exact aIndexArr_ok hT hu ho h
  ·exact aIdxQ_ok hT ho h
 ·rename_i x ho; exact aNilChk_ok ho h
 ·rename_i t r ho; exact aNewMap_ok ho h
 ·rename_i t x y cm ho; exact aLook_ok ho h
 ·rename_i t x y z ho; exact aUpd_ok (.inl ho) h
 ·rename_i t x y z ho; exact aUpd_ok (.inr ho) h
 ·rename_i op t x y u ho
  split at h
  ·exact aNil_ok ho h
  ·exact aBin_ok ho h
 ·rename_i op u x ho; exact aUn_ok ho h
 ·rename_i s d x ho; exact aConvS_ok ho h
 ·rename_i t x y ho; exact aIdxS_ok ho h
 ·rename_i x i ho; exact aExtract_ok ho h
 ·rename_i t ps ho
  split at h
  ·rename_i n e hu; exact aBuildArr_ok hT hu h.1 ho h.2
  ·exact aBuild_ok hT ho h
 ·rename_i t n ps ho; exact aBuildSlice_ok hT hnx ho h
 ·rename_i t x y ho; exact aMakeSlice_ok hT ho h
 ·rename_i t x lo hi mx ho
  split at h
  ·rename_i hu; exact aSlcS_ok hu ho h
  ·exact aSlcQ_ok hT ho h
 ·rename_i fn f cc ho
  split at h
  ·rename_i hc
   obtain ⟨rfl,hK⟩:=h
   obtain rfl:cc=#[]:=Array.toList_inj.1 hc
   refine ⟨_,hK,SOK.pure fun σ Γ a w hs hl _=>⟨.func fn #[] #[],?_,rfl,rfl,trivial⟩⟩
   simp [execOp,ho,Instr.makeFunc]
  ·exact aMakeClo_ok ho h.1 h.2
 ·rename_i callee args argTypes ho
  split at h
  ·exact aCall2_ok hnx ho h
  ·split at h
   ·rename_i x t h1 h2
    rw [toList1 h1,toList1 h2] at ho
    exact aLenQ_ok ho h
   ·rename_i x y t u h1 h2
    obtain ⟨rfl,h⟩:=h
    rw [toList1 h1,toList1 h2] at ho
    exact aAppQ_ok hT hnx ho h
   ·exact aMin_ok ho h
   ·exact aMax_ok ho h
   ·exact h.elim
  ·exact h.elim
 ·exact h.elim
def fresh (M:Mm):Nat:=M.foldr (fun p n=>max (p.1+1) n) 0
theorem look_fresh {M:Mm}:∀ {k:Nat},fresh M<=k->look M k=none:=by
 induction M with
 | nil=>intros; rfl
 | cons p M ih =>
  obtain ⟨j,B⟩:=p
  intro k h
  simp only [fresh,List.foldr_cons] at h
  have hm:fresh M<=k:=by simp only [fresh]; omega
  rw [look_ne _ _ (by omega),ih hm]
def gslot (ops:List Oper) (j:Nat):Option Nat:=(ops[j]?).bind (·.dst)
abbrev Tr:=List (List Nat × List Nat)
def Eff.te (e:Eff):List Nat × List Nat:=(e.mems.map (·.1),e.mems.map (·.1)++e.rd)
def Eff.skip:Eff:=⟨.tup [],[],[]⟩
def dstOK (n:Nat) (o:Oper):Prop:=match o.dst with|some d=>d < n|none=>True
section
variable (P:Program) (T:TypeId->Option Ty) (n:Nat) (ops:List Oper)
def AO:List Oper->St->Tr->(St->Tr->Prop)->Prop
 | [],σ,tr,Q=>Q σ tr
 | o :: os,σ,tr,Q =>
  dstOK n o ∧
  match o.guard with
  | none=>aStep P T (look σ.tmps) (look σ.mem) (fresh σ.mem) (fun e=>AO os (σ.app o.dst e) (tr++[e.te]) Q) o
  | some (j,want) =>
   match gslot ops j with
   | some g =>
    match look σ.tmps g with
    | some (.sc (.bool b)) =>
     (b=want->aStep P T (look ((g,.sc (.bool want)) :: σ.tmps)) (look σ.mem) (fresh σ.mem) (fun e=>AO os (St.app ⟨(g,.sc (.bool want)) :: σ.tmps,σ.mem⟩ o.dst e) (tr++[e.te]) Q) o) ∧
     (b=!want->AO os (St.app ⟨(g,.sc (.bool (!want))) :: σ.tmps,σ.mem⟩ o.dst .skip) (tr++[Eff.te .skip]) Q)
    | some (.tup _)=>AO os (σ.app o.dst .skip) (tr++[Eff.te .skip]) Q
    | _=>False
   | none=>False
end
theorem same_ref {σ:St} {g:Nat} {v:AV} (h:look σ.tmps g=some v):Same σ ⟨(g,v) :: σ.tmps,σ.mem⟩:=by
 refine ⟨fun d=>?_,fun k=>rfl⟩
 by_cases hd:d=g
 ·subst hd; rw [look_self,h]
 ·rw [look_ne _ _ hd]
def Went (P:Program) (c:Cx) (ops:List Oper) (σ:St) (o:Oper) (e:Eff):Prop :=
 (∀ d,o.dst=some d->d < c.n) ∧
 match o.guard with
 | none=>∃ nx,(∀ k,nx<=k->look σ.mem k=none)/\SOK P c (look σ.tmps) (look σ.mem) nx o e
 | some (j,want)=>∃ g,gslot ops j=some g/\((∃ b,look σ.tmps g=some (.sc (.bool b)) ∧
   (b=want/\(∃ nx,(∀ k,nx<=k->look σ.mem k=none)/\SOK P c (look σ.tmps) (look σ.mem) nx o e)\/b=(!want)/\e=.skip))\/(∃ vs,look σ.tmps g=some (.tup vs))/\e=.skip)
def runEs (σ:St):List (Oper × Eff)->St
 | []=>σ
 | (o,e) :: l=>runEs (σ.app o.dst e) l
inductive Went' (P:Program) (c:Cx) (ops:List Oper):St->List Oper->List Eff->Prop
 | nil (σ):Went' P c ops σ [] []
 | cons {σ o os e es}:Went P c ops σ o e->Went' P c ops (σ.app o.dst e) os es->Went' P c ops σ (o :: os) (e :: es)
theorem SOK.same {P:Program} {c:Cx} {lt lt':Nat->Option AV} {lm lm':Nat->Option Blk} {nx:Nat} {o:Oper} {e:Eff} (h1:∀ d,lt' d=lt d) (h2:∀ k,lm' k=lm k) (h:SOK P c lt lm nx o e):SOK P c lt' lm' nx o e:=by
 have:lt'=lt:=funext h1
 have:lm'=lm:=funext h2
 subst lt' lm'
 exact h
theorem app_same {σ σ':St} (h:Same σ σ') (d:Option Nat) (e:Eff):Same (σ.app d e) (σ'.app d e):=by
 obtain ⟨h1,h2⟩:=h
 cases d with
 | none=>exact ⟨h1,fun k=>by simp only [St.app,look_app,h2]⟩
 | some d=>exact ⟨fun x=>by simp only [St.app,look_cons,h1],fun k=>by simp only [St.app,look_app,h2]⟩
theorem AO_went {P:Program} {T:TypeId->Option Ty} {c:Cx} [Nonempty (CG P c)] (hT:TabOK P T) {ops:List Oper}:∀ {os:List Oper} {σ σ0:St} {tr:Tr} {Q:St->Tr->Prop},AO P T c.n ops os σ tr Q->Same σ0 σ →
  ∃ es σ',Went' P c ops σ0 os es/\Q σ' (tr++es.map Eff.te)/\Same (runEs σ0 (os.zip es)) σ'
 | [],σ,σ0,tr,Q,h,hs=>⟨[],σ,.nil _,by simpa using (show Q σ tr from h),hs⟩
 | o :: os,σ,σ0,tr,Q,h,hs=>by
  obtain ⟨hd,h⟩:=h
  have hd':∀ d,o.dst=some d->d < c.n:=fun d e=>by rw [dstOK,e] at hd; exact hd
  split at h
  ·rename_i hg
   obtain ⟨e,hK,hsok⟩:=aStep_ok (c:=c) hT (fun k hk=>look_fresh hk) h
   obtain ⟨es,σ',h1,h2,h3⟩:=AO_went hT hK (app_same hs o.dst e)
   refine ⟨e :: es,σ',.cons ⟨hd',?_⟩ h1,by simpa using h2,h3⟩
   rw [hg]
   exact ⟨fresh σ.mem,fun k hk=>by rw [<-hs.2]; exact look_fresh hk,hsok.same (fun d=>(hs.1 d).symm) (fun k=>(hs.2 k).symm)⟩
  ·rename_i j want hg
   split at h
   ·rename_i g hgs
    split at h
    ·rename_i b hb
     have hb0:look σ0.tmps g=some (.sc (.bool b)):=by rw [<-hs.1]; exact hb
     by_cases hbw:b=want
     ·have hs':Same σ0 ⟨(g,.sc (.bool want)) :: σ.tmps,σ.mem⟩:=⟨fun d=>((same_ref (v:=.sc (.bool want)) (hbw ▸ hb)).1 d).trans (hs.1 d),hs.2⟩
      obtain ⟨e,hK,hsok⟩:=aStep_ok (c:=c) hT (fun k hk=>look_fresh hk) (h.1 hbw)
      obtain ⟨es,σ',h1,h2,h3⟩:=AO_went hT hK (app_same hs' o.dst e)
      refine ⟨e :: es,σ',.cons ⟨hd',?_⟩ h1,by simpa using h2,h3⟩
      rw [hg]
      exact ⟨g,hgs,.inl ⟨b,hb0,.inl ⟨hbw,fresh σ.mem,fun k hk=>by rw [<-hs.2]; exact look_fresh hk,hsok.same (fun d=>(hs'.1 d).symm) (fun k=>(hs'.2 k).symm)⟩⟩⟩
     ·have hbw':b=!want:=by cases b<;>cases want<;>simp_all
      have hs':Same σ0 ⟨(g,.sc (.bool (!want))) :: σ.tmps,σ.mem⟩:=⟨fun d=>((same_ref (v:=.sc (.bool (!want))) (hbw' ▸ hb)).1 d).trans (hs.1 d),hs.2⟩
      obtain ⟨es,σ',h1,h2,h3⟩:=AO_went hT (h.2 hbw') (app_same hs' o.dst .skip)
      refine ⟨.skip :: es,σ',.cons ⟨hd',?_⟩ h1,by simpa using h2,h3⟩
      rw [hg]
      exact ⟨g,hgs,.inl ⟨b,hb0,.inr ⟨hbw',rfl⟩⟩⟩
    ·rename_i vs hb
     obtain ⟨es,σ',h1,h2,h3⟩:=AO_went hT h (app_same hs o.dst .skip)
     refine ⟨.skip :: es,σ',.cons ⟨hd',?_⟩ h1,by simpa using h2,h3⟩
     rw [hg]
     exact ⟨g,hgs,.inr ⟨⟨vs,by rw [<-hs.1]; exact hb⟩,rfl⟩⟩
    ·exact h.elim
   ·exact h.elim
end Go.Proofs.YtcbionahcldlnaaGreat.DW
