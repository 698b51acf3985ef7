/-
  Texts of a proof, one behind another: DwN, DwO, DwP, DwQ, DwR, Data, DwT, Dw1, Dw2, Num, NumB, Dw3, Dw4, Dw5, Flt, FltD, Dw6, Dw7, Dw8, Z, Dw9, Dw10, Dw11, Dw12, Dw13, Dw16, Dw18, Dw21, Dw23, Dw24, Br, LwA, Sz, To, Eq, Mark, Held, LwH, LwT, BtsV, LwS, Dw130, Dw131, Cn, MarkT, MarkS.
-/
import Derived.Test.YtpdiggaapdhffaaGreatProg
import Derived.Laws.FloatArith
import Derived.Test.YtpdiggaapdhffaaGreatKCH2
set_option linter.all false
set_option maxRecDepth 100000
namespace Go.Proofs.YtpdiggaapdhffaaGreat.DW
open Go.RowKit
section
variable {P:Program} {c:Cx} [Nonempty (CG P c)] {ops:List Oper}
theorem yield_sim {σ:St} {Γ:Asg} {a:Act} {w:World} (hs:Sim c σ Γ a w) {j g:Nat} {b:Bool} (hg:gslot ops j=some g) (hb:look σ.tmps g=some (.sc (.bool b))):yielded ops.toArray a.tmps j=some b:=by
 obtain ⟨u,h1,h2⟩:=hs.tm g _ hb
 have h2':u=.bool b:=h2.1
 subst h2'
 unfold gslot at hg
 simp only [yielded,List.getElem?_toArray,hg,Option.bind_some,h1]
theorem Went.step {σ0 σ:St} {o:Oper} {e:Eff} (h:Went P c ops σ0 o e) {Γ:Asg} {a:Act} {w:World} (hs:Sim c σ Γ a w) (ht:∀ t ∈ opnds o,look σ.tmps t=look σ0.tmps t)
  (hg:∀ j want g,o.guard=some (j,want)->gslot ops j=some g->look σ.tmps g=look σ0.tmps g) (hm:∀ k,k ∈ e.mems.map (·.1)++e.rd->look σ.mem k=look σ0.mem k)
  {K:Act->World->Prop} {Q:Exit->Act->World->Prop} (hK:∀ Γ' a' w',Sim c (σ.app o.dst e) Γ' a' w'->K a' w') :
  if Region.wanted o (yielded ops.toArray a.tmps) then o.wp P a w K Q else K (a.put o.dst undef) w:=by
 obtain ⟨hd,h⟩:=h
 have hsok:∀ nx,(∀ k,nx<=k->look σ0.mem k=none)->SOK P c (look σ0.tmps) (look σ0.mem) nx o e->o.wp P a w K Q:=by
  intro nx hnx ⟨h1,h2⟩
  refine h2 σ Γ a w hs ht (fun k hk=>hm k (List.mem_append.2 (.inr hk))) (fun p hp hn=>?_) hd K Q hK
  rw [hm p.1 (List.mem_append.2 (.inl (List.mem_map.2 ⟨p,hp,rfl⟩)))]
  exact hnx _ ((h1 p hp).resolve_right hn)
 split at h
 ·rename_i hgd
  obtain ⟨nx,hnx,hsk⟩:=h
  rw [if_pos (by simp [Region.wanted,hgd])]
  exact hsok nx hnx hsk
 ·rename_i j want hgd
  have hskip:e=.skip->Region.wanted o (yielded ops.toArray a.tmps)=false->(if Region.wanted o (yielded ops.toArray a.tmps) then o.wp P a w K Q else K (a.put o.dst undef) w):=by
   rintro rfl hw
   rw [hw,if_neg (by simp)]
   refine hK Γ _ _ ?_
   have:=hs.put (d:=o.dst) (v:=.tup []) (u:=undef) ⟨[],rfl,trivial⟩ (fun x hx=>hd x hx)
   unfold St.app
   cases hdst:o.dst<;>simp only [hdst,St.put,Eff.skip,List.nil_append] at this ⊢<;>exact this
  obtain ⟨g,h1,⟨b,h2,h3⟩|⟨⟨vs,h2⟩,rfl⟩⟩:=h
  rotate_left
  ·refine hskip rfl ?_
   have hnone:yielded ops.toArray a.tmps j=none:=by
    obtain ⟨u,g1,us,rfl,_⟩:=hs.tm g _ ((hg j want g hgd h1).trans h2)
    unfold gslot at h1
    simp only [yielded,List.getElem?_toArray,h1,Option.bind_some,g1]
   simp [Region.wanted,hgd,hnone]
  have hy:=yield_sim hs h1 ((hg j want g hgd h1).trans h2)
  rcases h3 with ⟨rfl,nx,hnx,hsk⟩|⟨rfl,rfl⟩
  ·rw [if_pos (by simp [Region.wanted,hgd,hy])]
   exact hsok nx hnx hsk
  ·exact hskip rfl (by simp [Region.wanted,hgd,hy])
theorem went_list {Q:Exit->Act->World->Prop}:∀ {os:List Oper} {es:List Eff} {σ:St} {Γ:Asg} {a:Act} {w:World},Went' P c ops σ os es->Sim c σ Γ a w->(∀ Γ' a' w',Sim c (runEs σ (os.zip es)) Γ' a' w'->Q .normal a' w')->wpList P ops.toArray Q os a w
 | [],_,σ,Γ,a,w,.nil _,hs,hQ=>hQ Γ a w hs
 | o :: os,e :: es,σ,Γ,a,w,.cons h1 h2,hs,hQ=>by
  refine wpList_step fun K hK=>?_
  exact h1.step hs (fun _ _=>rfl) (fun _ _ _ _ _=>rfl) (fun _ _=>rfl) fun Γ' a' w' hs'=>hK _ _ (went_list h2 hs' hQ)
def runF (f:Nat->Bool):Nat->St->List (Oper × Eff)->St
 | _,σ,[]=>σ
 | i,σ,(o,e) :: l=>runF f (i+1) (cond (f i) (σ.app o.dst e) σ) l
theorem app_tm {σ:St} {d:Option Nat} {e:Eff} {x:Nat} (h:d ≠ some x):look (σ.app d e).tmps x=look σ.tmps x:=by
 cases d with
 | none=>rfl
 | some d=>exact look_ne _ _ (fun hx=>h (by rw [hx]))
theorem look_not {L:Mm} {k:Nat} (h:k ∉ L.map (·.1)):look L k=none:=by
 cases hl:look L k with
 | none=>rfl
 | some B=>obtain ⟨q,hq,e⟩:=look_mem hl; exact absurd (List.mem_map.2 ⟨q,hq,e⟩) h
theorem app_mm {σ:St} {d:Option Nat} {e:Eff} {k:Nat}:look (σ.app d e).mem k=(look e.mems k).or (look σ.mem k):=by
 cases d<;>simp only [St.app,look_app]
theorem runF_tm {f f':Nat->Bool} {d:Nat}:∀ {l:List (Oper × Eff)} {i0:Nat} {σ σ':St},(∀ i o e,l[i]? = some (o,e)->o.dst=some d->f (i0+i)=f' (i0+i))->look σ.tmps d=look σ'.tmps d->look (runF f i0 σ l).tmps d=look (runF f' i0 σ' l).tmps d
 | [],_,_,_,_,h=>h
 | (o,e) :: l,i0,σ,σ',hf,h=>by
  show look (runF f (i0+1) _ l).tmps d=look (runF f' (i0+1) _ l).tmps d
  refine runF_tm (fun i o' e' hi ho=>by have:=hf (i+1) o' e' (by simpa using hi) ho; rw [show i0+1+i=i0+(i+1) by omega]; exact this) ?_
  have h0:=hf 0 o e rfl
  by_cases hd:o.dst=some d
  ·have h00:=h0 hd
   simp only [Nat.add_zero] at h00
   rw [h00]
   cases f' i0 with
   | false=>exact h
   | true=>simp only [cond_true,St.app,hd,look_self]
  ·have e1:∀ (b:Bool) (τ:St),look (cond b (τ.app o.dst e) τ).tmps d=look τ.tmps d:=by
    intro b τ; cases b with
    | false=>rfl
    | true=>exact app_tm hd
   rw [e1,e1]; exact h
theorem runF_mm {f f':Nat->Bool} {k:Nat}:∀ {l:List (Oper × Eff)} {i0:Nat} {σ σ':St},(∀ i o e,l[i]? = some (o,e)->k ∈ e.mems.map (·.1)->f (i0+i)=f' (i0+i))->look σ.mem k=look σ'.mem k->look (runF f i0 σ l).mem k=look (runF f' i0 σ' l).mem k
 | [],_,_,_,_,h=>h
 | (o,e) :: l,i0,σ,σ',hf,h=>by
  show look (runF f (i0+1) _ l).mem k=look (runF f' (i0+1) _ l).mem k
  refine runF_mm (fun i o' e' hi ho=>by have:=hf (i+1) o' e' (by simpa using hi) ho; rw [show i0+1+i=i0+(i+1) by omega]; exact this) ?_
  have h0:=hf 0 o e rfl
  by_cases hd:k ∈ e.mems.map (·.1)
  ·have h00:=h0 hd
   simp only [Nat.add_zero] at h00
   rw [h00]
   cases f' i0 with
   | false=>exact h
   | true=>simp only [cond_true,app_mm,h]
  ·have e1:∀ (b:Bool) (τ:St),look (cond b (τ.app o.dst e) τ).mem k=look τ.mem k:=by
    intro b τ; cases b with
    | false=>rfl
    | true=>simp only [cond_true,app_mm,look_not hd,Option.none_or]
   rw [e1,e1]; exact h
def Apart (d d':Option Nat) (e e':Eff):Prop:=(∀ x,d=some x->d' ≠ some x)/\∀ k ∈ e.mems.map (·.1),k ∉ e'.mems.map (·.1)
theorem app_comm {σ:St} {d d':Option Nat} {e e':Eff} (h:Apart d d' e e'):Same ((σ.app d e).app d' e') ((σ.app d' e').app d e):=by
 refine ⟨fun x=>?_,fun k=>?_⟩
 ·by_cases h1:d=some x
  ·subst h1
   have h2:=h.1 x rfl
   rw [app_tm (σ:=σ.app (some x) e) h2]
   simp only [St.app,look_self]
  ·rw [app_tm h1]
   by_cases h2:d'=some x
   ·subst h2; simp only [St.app,look_self]
   ·rw [app_tm h2,app_tm h2,app_tm h1]
 ·simp only [app_mm]
  by_cases hk:k ∈ e.mems.map (·.1)
  ·rw [look_not (h.2 k hk)]; simp
  ·rw [look_not hk]; simp
theorem Same.trans' {a b d:St} (h:Same a b) (k:Same b d):Same a d:=⟨fun x=>(k.1 x).trans (h.1 x),fun x=>(k.2 x).trans (h.2 x)⟩
theorem Same.rfl' {a:St}:Same a a:=⟨fun _=>rfl,fun _=>rfl⟩
theorem runF_same {f:Nat->Bool}:∀ {l:List (Oper × Eff)} {i0:Nat} {σ σ':St},Same σ σ'->Same (runF f i0 σ l) (runF f i0 σ' l)
 | [],_,_,_,h=>h
 | (o,e) :: l,i0,σ,σ',h=>by
  refine runF_same (l:=l) ?_
  cases f i0 with
  | false=>exact h
  | true=>exact app_same h _ _
theorem runF_app {f:Nat->Bool} {d:Option Nat} {e:Eff}:∀ {l:List (Oper × Eff)} {i0:Nat} {σ:St},(∀ i o e',l[i]? = some (o,e')->f (i0+i)=true->Apart d o.dst e e')->Same (runF f i0 (σ.app d e) l) ((runF f i0 σ l).app d e)
 | [],_,_,_=>Same.rfl'
 | (o,e') :: l,i0,σ,h=>by
  have ih:=fun τ=>runF_app (l:=l) (i0:=i0+1) (σ:=τ) (f:=f) (d:=d) (e:=e) (fun i o e' hi hf=>h (i+1) o e' (by simpa using hi) (by rw [show i0+(i+1)=i0+1+i by omega]; exact hf))
  simp only [runF]
  cases hf:f i0 with
  | false=>exact ih σ
  | true =>
   simp only [cond_true]
   exact (runF_same (app_comm (h 0 o e' rfl (by simpa using hf)))).trans' (ih _)
theorem runF_ins {f:Nat->Bool} {i:Nat} (hfi:f i=false):∀ {l:List (Oper × Eff)} {i0:Nat} {σ:St} {o:Oper} {e:Eff},i0<=i->l[i - i0]? = some (o,e)->(∀ j o' e',l[j]? = some (o',e')->f (i0+j)=true->i < i0+j->Apart o.dst o'.dst e e') →
  Same (runF (fun j=>f j || j == i) i0 σ l) ((runF f i0 σ l).app o.dst e)
 | [],_,_,_,_,_,h,_=>by simp at h
 | (o1,e1) :: l,i0,σ,o,e,hle,h,ha=>by
  simp only [runF]
  rcases Nat.lt_or_eq_of_le hle with hlt|rfl
  ·have hne:(i0 == i)=false:=by simp; omega
   rw [hne,Bool.or_false]
   refine runF_ins hfi (by omega) ?_ fun j o' e' hj hf hji=>ha (j+1) o' e' (by simpa using hj) (by rw [show i0+(j+1)=i0+1+j by omega]; exact hf) (by omega)
   rw [show i - i0=(i - (i0+1))+1 by omega] at h
   simpa using h
  ·simp only [Nat.sub_self,List.getElem?_cons_zero,Option.some.injEq,Prod.mk.injEq] at h
   obtain ⟨rfl,rfl⟩:=h
   rw [hfi]
   simp only [beq_self_eq_true,Bool.or_true,cond_true,cond_false]
   have h1:Same (runF (fun j=>f j || j == i0) (i0+1) (σ.app o1.dst e1) l) (runF f (i0+1) (σ.app o1.dst e1) l):=by
    refine ⟨fun d=>(runF_tm (fun j o' e' hj _=>?_) rfl).symm,fun k=>(runF_mm (fun j o' e' hj _=>?_) rfl).symm⟩<;>(have:(i0+1+j == i0)=false:=by simp; omega)<;>rw [this,Bool.or_false]
   exact h1.trans' (runF_app fun j o' e' hj hf=>ha (j+1) o' e' (by simpa using hj) (by rw [show i0+(j+1)=i0+1+j by omega]; exact hf) (by omega))
theorem went_at:∀ {os:List Oper} {es:List Eff} {σ:St} {i0:Nat},Went' P c ops σ os es->∀ i o e,(os.zip es)[i]? = some (o,e)->Went P c ops (runF (fun j=>decide (j < i0+i)) i0 σ (os.zip es)) o e
 | [],_,_,_,.nil _,i,o,e,h=>by simp at h
 | o1 :: os,e1 :: es,σ,i0,.cons h1 h2,i,o,e,h=>by
  cases i with
  | zero =>
   simp at h
   obtain ⟨rfl,rfl⟩:=h
   have h0:∀ (l:List (Oper × Eff)) (k:Nat),i0<=k->runF (fun j=>decide (j < i0+0)) k σ l=σ:=by
    intro l
    induction l with
    | nil=>intros; rfl
    | cons x l ih =>
     intro k hk
     have:decide (k < i0+0)=false:=by simp; omega
     simp only [runF,this,cond_false]
     exact ih _ (by omega)
   rw [h0 _ _ (Nat.le_refl _)]; exact h1
  | succ i =>
   have:=went_at (i0:=i0+1) h2 i o e (by simpa using h)
   simp only [List.zip_cons_cons,runF]
   have hd:decide (i0 < i0+(i+1))=true:=by simp
   rw [hd]
   simp only [cond_true]
   have he:(fun j=>decide (j < i0+(i+1)))=fun j=>decide (j < i0+1+i):=by funext j; congr 1; rw [show i0+(i+1)=i0+1+i by omega]
   rw [he]; exact this
end
def mask (acc:List Nat) (o:Oper):Nat:=o.after.toList.foldl (fun s e=>if Region.binds .any e then s ||| 2 ^ e.on ||| acc.getD e.on 0 else s) 0
def masks (ops:List Oper):List Nat:=ops.foldl (fun acc o=>acc++[mask acc o]) []
def rT (ops:List Oper) (o:Oper):List Nat:=opnds o++(match o.guard with|some (j,_)=>(gslot ops j).toList|none=>[])
def inter (a b:List Nat):Bool:=a.any fun x=>b.contains x
def confB (ops:List Oper) (o o':Oper) (t t':List Nat × List Nat):Bool :=
 (match o.dst with|some d=>(rT ops o').contains d || o'.dst == some d|none=>false) ||
 (match o'.dst with|some d=>(rT ops o).contains d|none=>false) || inter t.1 t'.2 || inter t'.1 t.2
def edgesOK (ops:List Oper):Bool:=ops.zipIdx.all fun x=>x.1.after.toList.all fun e=>!Region.binds .any e || decide (e.on < x.2)
def okTr (ops:List Oper) (tr:Tr):Bool :=
 edgesOK ops && (ops.zip tr).zipIdx.all fun y=>(ops.zip tr).zipIdx.all fun x=>!decide (x.2 < y.2) || !confB ops x.1.1 y.1.1 x.1.2 y.1.2 || ((masks ops).getD y.2 0).testBit x.2
theorem mask_len (ops:List Oper):(masks ops).length=ops.length:=by
 unfold masks
 have:∀ (l:List Oper) (acc:List Nat),(l.foldl (fun acc o=>acc++[mask acc o]) acc).length=acc.length+l.length:=by
  intro l
  induction l with
  | nil=>intro acc; rfl
  | cons o l ih=>intro acc; rw [List.foldl_cons,ih]; simp; omega
 simpa using this ops []
theorem mask_bit {acc:List Nat} {o:Oper} {i:Nat} (h:(mask acc o).testBit i=true):∃ e ∈ o.after.toList,Region.binds .any e=true/\(e.on=i\/(acc.getD e.on 0).testBit i=true):=by
 unfold mask at h
 have:∀ (l:List Edge) (s:Nat),(l.foldl (fun s e=>if Region.binds .any e then s ||| 2 ^ e.on ||| acc.getD e.on 0 else s) s).testBit i=true->s.testBit i=true\/∃ e ∈ l,Region.binds .any e=true/\(e.on=i\/(acc.getD e.on 0).testBit i=true):=by
  intro l
  induction l with
  | nil=>intro s h; exact .inl h
  | cons e l ih =>
   intro s h
   rw [List.foldl_cons] at h
   rcases ih _ h with h|⟨e',he',h⟩
   ·by_cases hb:Region.binds .any e=true
    ·rw [if_pos hb,Nat.testBit_or,Nat.testBit_or,Nat.testBit_two_pow] at h
     simp only [Bool.or_eq_true,decide_eq_true_eq] at h
     rcases h with (h|h)|h
     ·exact .inl h
     ·exact .inr ⟨e,List.mem_cons_self,hb,.inl h⟩
     ·exact .inr ⟨e,List.mem_cons_self,hb,.inr h⟩
    ·rw [if_neg hb] at h; exact .inl h
   ·exact .inr ⟨e',List.mem_cons_of_mem _ he',h⟩
 rcases this _ 0 h with h|h
 ·simp at h
 ·exact h
theorem masks_bit {ops:List Oper} {L:Nat->Bool} (hL:∀ j o,ops[j]? = some o->L j=true->∀ e ∈ o.after.toList,Region.binds .any e=true->L e.on=true) :
  ∀ (n j i:Nat) (o:Oper),n<=ops.length->j < n->ops[j]? = some o->(∀ e ∈ o.after.toList,Region.binds .any e=true->L e.on=true)->((masks (ops.take n)).getD j 0).testBit i=true->L i=true:=by
 intro n
 induction n with
 | zero=>intro j i o _ h; omega
 | succ n ih =>
  intro j i o hn hj ho he hb
  have ht:masks (ops.take (n+1))=masks (ops.take n)++[mask (masks (ops.take n)) ops[n]]:=by
   rw [List.take_succ_eq_append_getElem (by omega)]
   simp only [masks,List.foldl_append,List.foldl_cons,List.foldl_nil]
  have hlen:(masks (ops.take n)).length=n:=by rw [mask_len,List.length_take]; omega
  rw [ht] at hb
  rcases Nat.lt_or_ge j n with hjn|hjn
  ·rw [List.getD_eq_getElem?_getD,List.getElem?_append_left (by omega),<-List.getD_eq_getElem?_getD] at hb
   exact ih j i o (by omega) hjn ho he hb
  ·have:j=n:=by omega
   subst this
   rw [List.getD_eq_getElem?_getD,List.getElem?_append_right (by omega),hlen] at hb
   simp only [Nat.sub_self,List.getElem?_cons_zero,Option.getD_some] at hb
   have hoo:o=ops[j]:=by rw [List.getElem?_eq_getElem (by omega)] at ho; injection ho with ho; exact ho.symm
   subst hoo
   obtain ⟨e,hem,hbd,hor⟩:=mask_bit hb
   rcases hor with rfl|hor
   ·exact he e hem hbd
   ·have hLe:=he e hem hbd
    have hlt:e.on < j:=by
     rcases Nat.lt_or_ge e.on j with h|h
     ·exact h
     ·rw [List.getD_eq_getElem?_getD,List.getElem?_eq_none (by omega)] at hor; simp at hor
    exact ih e.on i ops[e.on] (by omega) hlt (List.getElem?_eq_getElem (by omega)) (hL e.on _ (List.getElem?_eq_getElem (by omega)) hLe) hor
section
variable {P:Program} {c:Cx} [Nonempty (CG P c)] {ops:List Oper}
theorem went_len:∀ {os:List Oper} {es:List Eff} {σ:St},Went' P c ops σ os es->es.length=os.length
 | [],_,_,.nil _=>rfl
 | _ :: _,_ :: _,_,.cons _ h=>by simp [went_len h]
theorem runF_all {f:Nat->Bool}:∀ {l:List (Oper × Eff)} {i0:Nat} {σ:St},(∀ i,i < l.length->f (i0+i)=true)->runF f i0 σ l=runEs σ l
 | [],_,_,_=>rfl
 | (o,e) :: l,i0,σ,h=>by
  have h0:=h 0 (by simp)
  simp only [Nat.add_zero] at h0
  simp only [runF,runEs,h0,cond_true]
  exact runF_all fun i hi=>by rw [show i0+1+i=i0+(i+1) by omega]; exact h _ (by simp; omega)
theorem okTr_conf {tr:Tr} (hok:okTr ops tr=true) {i j:Nat} {o o':Oper} {t t':List Nat × List Nat} (hij:i < j) (hi:ops[i]? = some o) (hj:ops[j]? = some o') (ti:tr[i]? = some t) (tj:tr[j]? = some t')
  (hc:confB ops o o' t t'=true):((masks ops).getD j 0).testBit i=true:=by
 simp only [okTr,Bool.and_eq_true] at hok
 have h2:=hok.2
 rw [List.all_eq_true] at h2
 have m1:((o',t'),j) ∈ (ops.zip tr).zipIdx:=List.mk_mem_zipIdx_iff_getElem?.2 (by rw [List.getElem?_zip_eq_some]; exact ⟨hj,tj⟩)
 have m2:((o,t),i) ∈ (ops.zip tr).zipIdx:=List.mk_mem_zipIdx_iff_getElem?.2 (by rw [List.getElem?_zip_eq_some]; exact ⟨hi,ti⟩)
 have h3:=h2 _ m1
 rw [List.all_eq_true] at h3
 have h4:=h3 _ m2
 simp only [hij,decide_true,Bool.not_true,Bool.false_or,hc] at h4
 exact h4
theorem okTr_edges {tr:Tr} (hok:okTr ops tr=true) {i:Nat} {o:Oper} (hi:ops[i]? = some o) {e:Edge} (he:e ∈ o.after.toList) (hb:Region.binds .any e=true):e.on < i:=by
 simp only [okTr,Bool.and_eq_true,edgesOK] at hok
 have h1:=hok.1
 rw [List.all_eq_true] at h1
 have:=h1 (o,i) (List.mk_mem_zipIdx_iff_getElem?.2 hi)
 rw [List.all_eq_true] at this
 have:=this e he
 simpa [hb] using this
theorem mem_ready {listed:Array Bool} {i:Nat}:i ∈ Region.ready .any ops.toArray listed ↔ i < ops.length/\listed.getD i true=false/\∃ o,ops[i]? = some o/\∀ e ∈ o.after.toList,Region.binds .any e=true->listed.getD e.on false=true:=by
 unfold Region.ready
 simp only [List.size_toArray,List.mem_filter,List.mem_range,Bool.and_eq_true,Bool.not_eq_true',List.getElem?_toArray]
 refine and_congr_right fun hi=>and_congr_right fun _=>?_
 rw [List.getElem?_eq_getElem hi]
 simp only [Option.map_some,Option.getD_some,Option.some.injEq,exists_eq_left']
 rw [<-Array.all_toList,List.all_eq_true]
 refine forall_congr' fun e=>?_
 refine imp_congr_right fun _=>?_
 cases hb:Region.binds .any e<;>simp
theorem inter_mem {a b:List Nat} {k:Nat} (h1:k ∈ a) (h2:k ∈ b):inter a b=true:=List.any_eq_true.2 ⟨k,h1,by simpa using h2⟩
def unl (n:Nat) (listed:Array Bool):List Nat:=(List.range n).filter fun i=>!listed.getD i true
theorem getD_set {a:Array Bool} {i j:Nat} {d:Bool} (hi:i < a.size):(a.setIfInBounds i true).getD j d=if j=i then true else a.getD j d:=by
 rw [Array.getD_eq_getD_getElem?,Array.getD_eq_getD_getElem?]
 by_cases h:j=i
 ·subst h; rw [Array.getElem?_setIfInBounds_self_of_lt hi]; simp
 ·rw [Array.getElem?_setIfInBounds_ne (Ne.symm h)]; simp [h]
theorem getD_d {a:Array Bool} {i:Nat} (h:i < a.size):a.getD i true=a.getD i false:=by
 rw [Array.getD_eq_getD_getElem?,Array.getD_eq_getD_getElem?,Array.getElem?_eq_getElem h]; rfl
theorem wpAny_went {Q:Exit->Act->World->Prop} {σ0:St} {es:List Eff} (hw:Went' P c ops σ0 ops es) (hok:okTr ops (es.map Eff.te)=true) (hQ:∀ Γ' a' w',Sim c (runEs σ0 (ops.zip es)) Γ' a' w'->Q .normal a' w') :
  ∀ (fuel:Nat) (listed:Array Bool) (a:Act) (w:World) (Γ:Asg),listed.size=ops.length->(∀ j o,ops[j]? = some o->listed.getD j false=true->∀ e ∈ o.after.toList,Region.binds .any e=true->listed.getD e.on false=true) →
   (unl ops.length listed).length<=fuel->Sim c (runF (fun i=>listed.getD i false) 0 σ0 (ops.zip es)) Γ a w->wpAny P .any ops.toArray Q fuel listed a w:=by
 have hlen:=went_len hw
 have hdone:∀ (listed:Array Bool) (a:Act) (w:World) (Γ:Asg),listed.size=ops.length->Sim c (runF (fun i=>listed.getD i false) 0 σ0 (ops.zip es)) Γ a w->Region.ready .any ops.toArray listed=[]->Q .normal a w:=by
  intro listed a w Γ hsz hs hr
  have hall:∀ i,i < ops.length->listed.getD i false=true:=by
   intro i
   induction i using Nat.strongRecOn with
   | _ i ih =>
    intro hi
    cases hl:listed.getD i false with
    | true=>rfl
    | false =>
     exfalso
     have:i ∈ Region.ready .any ops.toArray listed:=by
      refine mem_ready.2 ⟨hi,by rw [getD_d (by omega)]; exact hl,_,List.getElem?_eq_getElem hi,fun e he hb=>?_⟩
      have hlt:=okTr_edges hok (List.getElem?_eq_getElem hi) he hb
      exact ih _ hlt (by omega)
     rw [hr] at this; cases this
  rw [runF_all fun i hi=>by rw [Nat.zero_add]; exact hall i (by simp at hi; omega)] at hs
  exact hQ Γ a w hs
 intro fuel
 induction fuel with
 | zero =>
  intro listed a w Γ hsz hcl hun hs
  have hr:Region.ready .any ops.toArray listed=[]:=by
   refine List.eq_nil_iff_forall_not_mem.2 fun i hi=>?_
   obtain ⟨h1,h2,_⟩:=mem_ready.1 hi
   have:i ∈ unl ops.length listed:=List.mem_filter.2 ⟨List.mem_range.2 h1,by rw [h2]; rfl⟩
   rw [List.eq_nil_of_length_eq_zero (Nat.le_zero.1 hun)] at this
   cases this
  exact ⟨hr,hdone listed a w Γ hsz hs hr⟩
 | succ fuel ih =>
  intro listed a w Γ hsz hcl hun hs
  refine ⟨hdone listed a w Γ hsz hs,fun i hi=>?_⟩
  obtain ⟨h1,h2,o,ho,hedge⟩:=mem_ready.1 hi
  have hfi:listed.getD i false=false:=by rw [<-getD_d (by omega)]; exact h2
  have hie:i < es.length:=by omega
  have he:es[i]? = some es[i]:=List.getElem?_eq_getElem hie
  have hz:(ops.zip es)[i]? = some (o,es[i]):=by rw [List.getElem?_zip_eq_some]; exact ⟨ho,he⟩
  have hwent:=went_at (i0:=0) hw i o es[i] hz
  simp only [Nat.zero_add] at hwent
  have hte:(es.map Eff.te)[i]? = some es[i].te:=by rw [List.getElem?_map,he]; rfl
  have hbef:∀ j oj ej,(ops.zip es)[j]? = some (oj,ej)->j < i->confB ops oj o ej.te es[i].te=true->listed.getD j false=true:=by
   intro j oj ej hj hji hc
   rw [List.getElem?_zip_eq_some] at hj
   have hb:=okTr_conf hok hji hj.1 ho (by rw [List.getElem?_map,hj.2]; rfl) hte hc
   have:=masks_bit (L:=fun i=>listed.getD i false) hcl ops.length i j o (Nat.le_refl _) h1 ho hedge (by rw [List.take_length]; exact hb)
   exact this
  have haft:∀ j oj ej,(ops.zip es)[j]? = some (oj,ej)->i < j->confB ops o oj es[i].te ej.te=true->listed.getD j false=false:=by
   intro j oj ej hj hij hc
   rw [List.getElem?_zip_eq_some] at hj
   have hb:=okTr_conf hok hij ho hj.1 hte (by rw [List.getElem?_map,hj.2]; rfl) hc
   cases hl:listed.getD j false with
   | false=>rfl
   | true =>
    have hjl:=(List.getElem?_eq_some_iff.1 hj.1).1
    have:=masks_bit (L:=fun i=>listed.getD i false) hcl ops.length j i oj (Nat.le_refl _) hjl hj.1 (hcl j oj hj.1 hl) (by rw [List.take_length]; exact hb)
    rw [show listed.getD i false=true from this] at hfi; cases hfi
  have hagT:∀ d,d ∈ rT ops o->look (runF (fun i=>listed.getD i false) 0 σ0 (ops.zip es)).tmps d=look (runF (fun j=>decide (j < i)) 0 σ0 (ops.zip es)).tmps d:=by
   intro d hd
   refine runF_tm (fun j oj ej hj hdj=>?_) rfl
   rw [Nat.zero_add]
   rcases Nat.lt_trichotomy j i with hji|rfl|hij
   ·rw [hbef j oj ej hj hji (by simp [confB,hdj,hd])]; simp [hji]
   ·rw [hfi]; simp
   ·rw [haft j oj ej hj hij (by simp [confB,hdj,hd])]; simp; omega
  have hagM:∀ k,k ∈ es[i].mems.map (·.1)++es[i].rd->look (runF (fun i=>listed.getD i false) 0 σ0 (ops.zip es)).mem k=look (runF (fun j=>decide (j < i)) 0 σ0 (ops.zip es)).mem k:=by
   intro k hk
   refine runF_mm (fun j oj ej hj hkj=>?_) rfl
   rw [Nat.zero_add]
   have hin:inter ej.te.1 es[i].te.2=true:=inter_mem hkj hk
   rcases Nat.lt_trichotomy j i with hji|rfl|hij
   ·rw [hbef j oj ej hj hji (by simp [confB,hin])]; simp [hji]
   ·rw [hfi]; simp
   ·rw [haft j oj ej hj hij (by simp [confB,hin])]; simp; omega
  have hins:=runF_ins (f:=fun i=>listed.getD i false) hfi (l:=ops.zip es) (i0:=0) (σ:=σ0) (Nat.zero_le _) hz fun j oj ej hj hf hij=>by
   rw [Nat.zero_add] at hf hij
   refine ⟨fun x hx hx'=>?_,fun k hk hk'=>?_⟩
   ·have:=haft j oj ej hj hij (by simp [confB,hx,hx'])
    rw [hf] at this; cases this
   ·have hin:inter es[i].te.1 ej.te.2=true:=inter_mem hk (List.mem_append.2 (.inl hk'))
    have:=haft j oj ej hj hij (by simp [confB,hin])
    rw [hf] at this; cases this
  unfold wpOp
  rw [List.getElem?_toArray,ho]
  simp only
  have hnext:∀ Γ' a' w',Sim c ((runF (fun i=>listed.getD i false) 0 σ0 (ops.zip es)).app o.dst es[i]) Γ' a' w'->wpAny P .any ops.toArray Q fuel (listed.setIfInBounds i true) a' w':=by
   intro Γ' a' w' hs'
   refine ih _ a' w' Γ' (by simp [hsz]) (fun j oj hj hl e he' hb=>?_) ?_ ?_
   ·rw [getD_set (by omega)]
    rw [getD_set (by omega)] at hl
    split
    ·rfl
    ·by_cases hji:j=i
     ·subst hji
      rw [ho] at hj; injection hj with hj; subst hj
      exact hedge e he' hb
     ·rw [if_neg hji] at hl
      exact hcl j oj hj hl e he' hb
   ·have hsub:unl ops.length (listed.setIfInBounds i true)=(unl ops.length listed).filter fun j=>!(listed.setIfInBounds i true).getD j true:=by
     unfold unl
     rw [List.filter_filter]
     refine List.filter_congr fun j _=>?_
     rw [getD_set (by omega)]
     by_cases hji:j=i
     ·simp [hji]
     ·simp [hji]
    have hlt:(unl ops.length (listed.setIfInBounds i true)).length < (unl ops.length listed).length:=by
     rw [hsub]
     refine List.length_filter_lt_length_iff_exists.2 ⟨i,List.mem_filter.2 ⟨List.mem_range.2 h1,by rw [h2]; rfl⟩,?_⟩
     rw [getD_set (by omega)]; simp
    omega
   ·refine hs'.same (Same.trans' ⟨fun d=>(hins.1 d).symm,fun k=>(hins.2 k).symm⟩ ?_)
    have:(fun j=>listed.getD j false || j == i)=fun j=>(listed.setIfInBounds i true).getD j false:=by
     funext j
     rw [getD_set (by omega)]
     by_cases hji:j=i
     ·simp [hji]
     ·simp [hji]
    rw [this]; exact Same.rfl'
  have hstep:=hwent.step (Q:=Q) (K:=wpAny P .any ops.toArray Q fuel (listed.setIfInBounds i true)) hs (fun t ht=>hagT t (List.mem_append.2 (.inl ht))) (fun j want g hg hgs=>hagT g (List.mem_append.2 (.inr (by rw [hg]; simp [hgs])))) hagM hnext
  split
  ·rename_i hwt; rw [if_pos hwt] at hstep; exact .inl hstep
  ·rename_i hwt; rw [if_neg hwt] at hstep; exact hstep
theorem region_draw {Q:Exit->Act->World->Prop} {T:TypeId->Option Ty} (hT:TabOK P T) (hmix:P.follows .mixedOrders=true) {id:Nat} {σ:St} {Γ:Asg} {a:Act} {w:World} (hs:Sim c σ Γ a w) {QA:St->Prop}
  (h:AO P T c.n ops ops σ [] fun σ' tr=>okTr ops tr=true/\QA σ') (hQ:∀ σ' Γ' a' w',QA σ'->Sim c σ' Γ' a' w'->Q .normal a' w'):(Code.region id ops.toArray true).wp P Q a w:=by
 obtain ⟨es,σ',h1,⟨h2,h3⟩,h4⟩:=AO_went hT h Same.rfl'
 simp only [List.nil_append] at h2
 refine wp_region_any hmix ?_
 have hs':Sim c σ Γ a { w with drawn:=w.drawn+1 }:=hs.frame ⟨rfl,rfl,rfl,Nat.le_refl _,fun _ _=>rfl⟩
 refine wpAny_went h1 h2 (fun Γ' a' w' hs'=>hQ σ' Γ' a' w' h3 (hs'.same h4)) _ _ a _ Γ (by simp) (fun j o _ hl=>?_) ?_ ?_
 ·rw [Array.getD_eq_getD_getElem?] at hl
  by_cases hj:j < ops.length
  ·simp [hj] at hl
  ·simp [hj] at hl
 ·unfold unl
  refine Nat.le_trans (List.length_filter_le _ _) (by simp)
 ·have:∀ (l:List (Oper × Eff)) (k:Nat) (τ:St),runF (fun i=>(Array.replicate ops.toArray.size false).getD i false) k τ l=τ:=by
   intro l
   induction l with
   | nil=>intros; rfl
   | cons x l ih =>
    intro k τ
    have hf:(Array.replicate ops.toArray.size false).getD k false=false:=by
     rw [Array.getD_eq_getD_getElem?]
     by_cases hk:k < ops.length<;>simp [hk]
    simp only [runF,hf,cond_false]
    exact ih _ _
  rw [this]; exact hs'
theorem region_text {Q:Exit->Act->World->Prop} {T:TypeId->Option Ty} (hT:TabOK P T) {id:Nat} {σ:St} {Γ:Asg} {a:Act} {w:World} (hs:Sim c σ Γ a w) {QA:St->Prop}
  (h:AO P T c.n ops ops σ [] fun σ' _=>QA σ') (hQ:∀ σ' Γ' a' w',QA σ'->Sim c σ' Γ' a' w'->Q .normal a' w'):(Code.region id ops.toArray false).wp P Q a w:=by
 obtain ⟨es,σ',h1,h3,h4⟩:=AO_went hT h Same.rfl'
 exact wp_region_lit (went_list h1 hs fun Γ' a' w' hs'=>hQ σ' Γ' a' w' h3 (hs'.same h4))
end
def nrow (B:Option Blk) (p:Prop):Prop:=match B with
 | some (.row ..)=>p
 | _=>True
section
variable (σm τm:Nat->Option Blk) (ρ:Nat->Nat) (rng:List Nat)
def LeC (u v:AV):Prop :=
 match v with
 | .sc x=>u=.sc x
 | .sl t l=>(u.data σm=some ⟨t,l⟩/\∀ k ∈ u.rows,nrow (σm k) (k ∉ rng))\/(u=.sc (.slice none 0 0)/\l=[])
 | .row k ver =>
  match τm k,u with
  | some (.row _ _ v _ _),.row k0 ver0=>k0=ρ k/\v=ver/\(match σm k0 with|some (.row _ _ v0 _ _)=>v0=ver0|_=>False)
  | some (.odat _ _),.row k0 ver0=>k0=ρ k/\ver=0/\ver0=0
  | some (.mine _ _),.row k0 ver0=>k0=ρ k/\ver=0/\ver0=0
  | some (.ob _ v _),.row k0 ver0=>k0=ρ k/\v=ver/\(match σm k0 with|some (.ob _ v0 _)=>v0=ver0|some (.row _ _ v0 _ _)=>v0=ver0|_=>False)
  | _,_=>False
 | .ptr k off=>u=.ptr (ρ k) off/\∃ x cs,τm k=some (.bx x cs)
 | .ref t x off=>u=.ref t x off/\rng=rng
 | .ex e t x=>u=.ex e t x/\rng=rng
 | .fx v t l=>u=.fx v t l/\rng=rng
 | _=>False
def LeA (u v:AV):Prop :=
 match v with
 | .agg cs=>match u with
  | .agg cs0=>All2 (LeC σm τm ρ rng) cs0 cs
  | _=>False
 | v=>LeC σm τm ρ rng u v
def LeV (u v:AV):Prop :=
 match v with
 | .junk=>True
 | .tup vs=>match u with
  | .tup us=>All2 (LeA σm τm ρ rng) us vs
  | _=>False
 | v=>LeA σm τm ρ rng u v
def wkT (σ:Tm):Tm->Prop
 | []=>True
 | (d,v) :: l=>(match look σ d with|some u=>LeV σm τm ρ rng u v|none=>False)/\wkT σ l
def wkB (k:Nat) (B:Blk):Prop :=
 match B with
 | .row e t _ o l=>match σm (ρ k) with
  | some (.row e0 t0 _ o0 l0)=>e0=e/\(⟨t0,l0⟩:Lst)=⟨t,l⟩/\(o=true->o0=true)
  | _=>False
 | .odat t l=>match σm (ρ k) with
  | some (.odat t0 l0)=>(⟨t0,l0⟩:Lst)=⟨t,l⟩
  | _=>False
 | .mine t l=>match σm (ρ k) with
  | some (.mine t0 l0)=>(⟨t0,l0⟩:Lst)=⟨t,l⟩
  | _=>False
 | .bx x cs=>match σm (ρ k) with
  | some (.bx x0 cs0)=>x0=x/\All2 (LeC σm τm ρ rng) cs0 cs
  | _=>False
 | .ob x _ d=>match σm (ρ k) with
  | some (.ob x0 _ d0)=>x0=x/\d0=d
  | some (.row e0 t0 _ _ l0)=>x=none/\d=.que e0 t0 l0/\t0.flat=true/\l0 ≠ []
  | _=>False
 | _=>False
def wkM:Mm->Prop
 | []=>True
 | (k,B) :: l=>wkB σm τm ρ rng k B/\wkM l
end
def ren (L:List (Nat × Nat)) (k:Nat):Nat:=(look L k).getD k
def Wk (σ τ:St):Prop :=
 ∃ L:List (Nat × Nat),((τ.mem.map fun p=>ren L p.1).Nodup)/\wkT (look σ.mem) (look τ.mem) (ren L) (τ.mem.map fun p=>ren L p.1) σ.tmps τ.tmps/\wkM (look σ.mem) (look τ.mem) (ren L) (τ.mem.map fun p=>ren L p.1) τ.mem
section
variable {c:Cx} {σ τ:St} {Γ:Asg} {a:Act} {w:World} {ρ:Nat->Nat} {rng:List Nat}
def Asg.ren (Γ:Asg) (ρ:Nat->Nat):Asg:=⟨fun k=>Γ.β (ρ k),fun k=>Γ.hd (ρ k),fun k=>Γ.fp (ρ k)⟩
theorem wkM_get {σm τm:Nat->Option Blk}:∀ {M:Mm} {k:Nat} {B:Blk},wkM σm τm ρ rng M->look M k=some B->wkB σm τm ρ rng k B
 | [],_,_,_,h=>by cases h
 | (j,C) :: M,k,B,⟨h1,h2⟩,h=>by
  simp only [look] at h
  split at h
  ·rename_i e; injection h with h; subst h e; exact h1
  ·exact wkM_get h2 h
theorem wkT_get {σm τm:Nat->Option Blk} {σt:Tm}:∀ {M:Tm} {k:Nat} {v:AV},wkT σm τm ρ rng σt M->look M k=some v->∃ u,look σt k=some u/\LeV σm τm ρ rng u v
 | [],_,_,_,h=>by cases h
 | (j,C) :: M,k,v,⟨h1,h2⟩,h=>by
  simp only [look] at h
  split at h
  ·rename_i e; injection h with h; subst h e
   split at h1
   ·rename_i u hu; exact ⟨u,hu,h1⟩
   ·exact h1.elim
  ·exact wkT_get h2 h
theorem wk_mut {B:Blk} {k b:Nat} (hB:wkB (look σ.mem) (look τ.mem) ρ rng k B) (hm:B.mut (Γ.ren ρ) k b):∃ B0,look σ.mem (ρ k)=some B0/\B0.mut Γ (ρ k) b:=by
 unfold wkB at hB
 split at hB
 ·split at hB
  ·rename_i h0; exact ⟨_,h0,hm⟩
  ·exact hB.elim
 ·exact hm.elim
 ·split at hB
  ·rename_i h0; exact ⟨_,h0,hm⟩
  ·exact hB.elim
 ·split at hB
  ·rename_i h0; obtain ⟨rfl,_⟩:=hB; exact ⟨_,h0,hm⟩
  ·exact hB.elim
 ·split at hB
  ·rename_i h0; obtain ⟨rfl,rfl⟩:=hB; exact ⟨_,h0,hm⟩
  ·rename_i h0
   obtain ⟨rfl,rfl,_⟩:=hB
   exact ⟨_,h0,hm⟩
  ·exact hB.elim
 ·exact hB.elim
theorem wk_Gd (hM:wkM (look σ.mem) (look τ.mem) ρ rng τ.mem) {b:Nat} (hg:Gd c σ.mem Γ b):Gd c τ.mem (Γ.ren ρ) b :=
 ⟨hg.1,fun ⟨k,B,hk,hm⟩=>by
  obtain ⟨B0,h1,h2⟩:=wk_mut (wkM_get hM hk) hm
  exact hg.2 ⟨_,B0,h1,h2⟩⟩
theorem wk_crep (hs:Sim c σ Γ a w) (hrng:rng=τ.mem.map fun p=>ρ p.1) (hM:wkM (look σ.mem) (look τ.mem) ρ rng τ.mem) {u v:AV} {x:Value} (hu:CRep c σ.mem Γ w u x) (hle:LeC (look σ.mem) (look τ.mem) ρ rng u v):CRep c τ.mem (Γ.ren ρ) w v x:=by
 cases v with
 | sc y=>obtain rfl:u=.sc y:=hle; exact hu
 | sl t l =>
  rcases hle with ⟨hd,hr⟩|⟨rfl,rfl⟩
  ·by_cases hrow:∃ k ver e v' o' l',u=.row k ver/\look σ.mem k=some (.row e t v' o' l')
   ·obtain ⟨k,ver,e,v',o',l',rfl,hk⟩:=hrow
    have hd':=hd
    simp only [AV.data,hk,Option.bind_some,Blk.data] at hd'
    split at hd'
    ·rename_i hvv
     injection hd' with hd'; injection hd' with _ d2
     obtain rfl:=d2
     obtain ⟨fps,hg,hf,hgd,_⟩:=hs.mm k _ hk
     obtain ⟨_,B,hB,hbh⟩:=hu
     rw [hk] at hB; injection hB with hB; subst hB
     rw [hbh.2 hvv]
     obtain ⟨fp,hrep,hfp⟩:=grow_rep hg
     refine ⟨fp,hrep,fun b hb=>?_⟩
     rcases hfp with rfl|⟨g,hgo,rfl,hbg,_⟩
     ·cases hb
     ·rcases List.mem_cons.1 hb with rfl|hb
      ·refine ⟨.inr hbg,fun ⟨j,B,hj,hm⟩=>?_⟩
       obtain ⟨B0,h1,h2⟩:=wk_mut (wkM_get hM hj) hm
       have:=hs.inj _ _ _ _ b h1 hk h2 hgo
       have hr1:=hr k (by simp [AV.rows])
       rw [hk] at hr1
       refine hr1 ?_
       rw [hrng,<-this]
       obtain ⟨q,hq,e⟩:=look_mem hj
       exact List.mem_map.2 ⟨q,hq,by rw [e]⟩
      ·exact wk_Gd hM (hgd b (hf ▸ hb))
    ·cases hd'
   ·obtain ⟨fp,hrep,_,hg⟩:=hs.sliceRep hu hd
    refine ⟨fp,hrep,fun b hb=>wk_Gd hM (hg (fun k ver e e' t' v' o' l' hk=>?_) b hb)⟩
    subst e
    have hd2:=hd
    simp only [AV.data,hk,Option.bind_some,Blk.data] at hd2
    split at hd2
    ·injection hd2 with hd2; injection hd2 with d1 d2
     subst d1
     exact hrow ⟨k,ver,e',v',o',l',rfl,hk⟩
    ·cases hd2
  ·obtain ⟨rfl,_⟩:=hu
   exact ⟨[],⟨none,0,rfl,Nat.le_refl _,Nat.zero_le _,.inl ⟨rfl,rfl⟩⟩,fun b hb=>by cases hb⟩
 | row k ver =>
  unfold LeC at hle
  simp only at hle
  split at hle
  ·rename_i e t v' o l k0 ver0 hk
   obtain ⟨rfl,rfl,hle⟩:=hle
   split at hle
   ·rename_i e0 t0 v0 o0 l0 hk0
    subst hle
    obtain ⟨h1,B,hB,hh⟩:=hu
    rw [hk0] at hB; injection hB with hB; subst hB
    exact ⟨h1,_,hk,Nat.le_refl _,fun _=>hh.2 rfl⟩
   ·exact hle.elim
  ·rename_i t l k0 ver0 hk
   obtain ⟨rfl,rfl,rfl⟩:=hle
   have hwb:=wkM_get hM hk
   simp only [wkB] at hwb
   split at hwb
   ·rename_i t0 l0 hk0
    obtain ⟨h1,B,hB,hh⟩:=hu
    rw [hk0] at hB; injection hB with hB; subst hB
    exact ⟨h1,_,hk,fun _=>hh rfl⟩
   ·exact hwb.elim
  ·rename_i t l k0 ver0 hk
   obtain ⟨rfl,rfl,rfl⟩:=hle
   have hwb:=wkM_get hM hk
   simp only [wkB] at hwb
   split at hwb
   ·rename_i t0 l0 hk0
    obtain ⟨h1,B,hB,hh⟩:=hu
    rw [hk0] at hB; injection hB with hB; subst hB
    exact ⟨h1,_,hk,fun _=>hh rfl⟩
   ·exact hwb.elim
  ·rename_i xo v' d k0 ver0 hk
   obtain ⟨rfl,rfl,hle⟩:=hle
   have hwb:=wkM_get hM hk
   obtain ⟨h1,B,hB,hh⟩:=hu
   split at hle
   ·rename_i x0 v0 d0 hk0
    subst hle
    rw [hk0] at hB; injection hB with hB; subst hB
    simp only [wkB,hk0] at hwb
    obtain ⟨rfl,_⟩:=hwb
    exact ⟨h1,_,hk,Nat.le_refl _,fun _=>hh.2 rfl⟩
   ·rename_i e0 t0 v0 o0 l0 hk0
    subst hle
    rw [hk0] at hB; injection hB with hB; subst hB
    simp only [wkB,hk0] at hwb
    obtain ⟨rfl,_⟩:=hwb
    exact ⟨h1,_,hk,Nat.le_refl _,fun _=>hh.2 rfl⟩
   ·exact hle.elim
  ·exact hle.elim
 | ptr k off =>
  obtain ⟨rfl,xo,cs,hk⟩:=hle
  obtain ⟨xo',cs',hq,rfl⟩:=hu
  have hwb:=wkM_get hM hk
  simp only [wkB,hq] at hwb
  obtain ⟨rfl,_⟩:=hwb
  exact ⟨_,cs,hk,rfl⟩
 | fx y t l =>
  obtain ⟨rfl,_⟩:=hle
  obtain ⟨e,fp,hr,hg⟩:=hu
  exact ⟨e,fp,hr,fun b hb=>wk_Gd hM (hg b hb)⟩
 | ex e t y =>
  obtain ⟨rfl,_⟩:=hle
  obtain ⟨fp,hr,hg⟩:=hu
  exact ⟨fp,hr,fun b hb=>wk_Gd hM (hg b hb)⟩
 | ref t y off =>
  obtain ⟨rfl,_⟩:=hle
  obtain ⟨b,o,cs,fp,rfl,hr,hc,hgb,hg,hl⟩:=hu
  exact ⟨b,o,cs,fp,rfl,hr,hc,wk_Gd hM hgb,fun b' hb'=>wk_Gd hM (hg b' hb'),hl⟩
 | _=>exact hle.elim
theorem All2.imp2 {α β γ:Type} {R:α->γ->Prop} {Q:α->β->Prop} {R':β->γ->Prop}:∀ {l:List α} {m:List β} {n:List γ},(∀ a b x,R a x->Q a b->R' b x)->All2 R l n->All2 Q l m->All2 R' m n
 | [],[],[],_,_,_=>trivial
 | _ :: _,_ :: _,_ :: _,h,⟨h1,h2⟩,⟨h3,h4⟩=>⟨h _ _ _ h1 h3,All2.imp2 h h2 h4⟩
 | [],_ :: _,_,_,_,h=>h.elim
 | _ :: _,[],_,_,_,h=>h.elim
 | [],[],_ :: _,_,h,_=>h.elim
 | _ :: _,_ :: _,[],_,h,_=>h.elim
def AV.isCell:AV->Bool
 | .junk|.agg _|.tup _=>false
 | _=>true
theorem LeC_cell {σm τm:Nat->Option Blk} {u v:AV} (h:LeC σm τm ρ rng u v):u.isCell=true:=by
 cases v with
 | sc x=>obtain rfl:u=.sc x:=h; rfl
 | sl t l =>
  rcases h with ⟨h,_⟩|⟨rfl,_⟩
  ·cases u<;>first|rfl|cases h
  ·rfl
 | row k ver =>
  unfold LeC at h
  simp only at h
  split at h
  ·rfl
  ·rfl
  ·rfl
  ·rfl
  ·exact h.elim
 | ptr k off=>obtain ⟨rfl,_⟩:=h; rfl
 | ref t x off=>obtain ⟨rfl,_⟩:=h; rfl
 | ex e t x=>obtain ⟨rfl,_⟩:=h; rfl
 | fx v t l=>obtain ⟨rfl,_⟩:=h; rfl
 | _=>exact h.elim
theorem arep_cell {M:Mm} {u:AV} {x:Value} (h:ARep c M Γ w u x) (hc:u.isCell=true):CRep c M Γ w u x:=by
 cases u<;>first|exact h|cases hc
theorem vrep_cell {M:Mm} {u:AV} {x:Value} (h:VRep c M Γ w u x) (hc:u.isCell=true):CRep c M Γ w u x:=by
 cases u<;>first|exact h|cases hc
theorem nodup_inj {α β:Type} {f:α->β}:∀ {l:List α},(l.map f).Nodup->∀ {x y:α},x ∈ l->y ∈ l->f x=f y->x=y
 | [],_,_,_,h,_,_=>by cases h
 | z :: l,hn,x,y,hx,hy,e=>by
  rw [List.map_cons,List.nodup_cons] at hn
  rcases List.mem_cons.1 hx with e1|h1<;>rcases List.mem_cons.1 hy with e2|h2
  ·rw [e1,e2]
  ·exact (hn.1 (List.mem_map.2 ⟨y,h2,by rw [<-e,e1]⟩)).elim
  ·exact (hn.1 (List.mem_map.2 ⟨x,h1,by rw [e,e2]⟩)).elim
  ·exact nodup_inj hn.2 h1 h2 e
theorem wk_ofp {B:Blk} {k b:Nat} (hB:wkB (look σ.mem) (look τ.mem) ρ rng k B) (hm:b ∈ B.ofp (Γ.ren ρ) k):∃ B0,look σ.mem (ρ k)=some B0/\b ∈ B0.ofp Γ (ρ k):=by
 unfold wkB at hB
 split at hB
 ·rename_i e t v o l
  split at hB
  ·rename_i h0
   cases o with
   | false=>simp [Blk.ofp] at hm
   | true=>exact ⟨_,h0,by rw [hB.2.2 rfl]; exact hm⟩
  ·exact hB.elim
 ·split at hB
  ·rename_i h0; exact ⟨_,h0,hm⟩
  ·exact hB.elim
 ·simp [Blk.ofp] at hm
 ·simp [Blk.ofp] at hm
 ·simp [Blk.ofp] at hm
 ·exact hB.elim
theorem que_of {c:Cx} {w:World} {e:TypeId} {t:Ty} {v:Value} {l:List t.den} {fps:List (List Nat)} (hg:GrowF t.rp c.base w e v l fps) (hf:t.flat=true) (hne:l ≠ []):∃ b o,oblk (.que e t l) v=some b/\Ho c none b/\w.heap[b]? = some o/\(ObD.que e t l).I v o:=by
 obtain ⟨xs,ho,hl,he⟩:=hg
 rcases ho.2 with ⟨_,h0⟩|⟨g,cap,cur,rfl,hb,hgg,h1,h2,h3,h4⟩
 ·exact absurd (List.eq_nil_of_length_eq_zero h0) hne
 ·refine ⟨g,_,rfl,hb,hgg,g,0,cap,cur,rfl,rfl,h1,h2,by omega,fun w' i x hx=>?_⟩
  obtain ⟨f,cs,_,hr,hc⟩:=he i x hx
  have h5:=flat_rep hf hr
  subst h5
  refine ⟨cs,t.rp.frame hr (fun b hb=>by cases hb),fun j u hj=>?_⟩
  have:=hc j u hj
  rw [<-h4,List.getElem?_take] at this
  split at this
  ·rw [Nat.zero_add]; exact this
  ·cases this
theorem wk_sim (hs:Sim c σ Γ a w) (h:Wk σ τ):∃ Γ',Sim c τ Γ' a w:=by
 obtain ⟨L,hnd,hT,hM⟩:=h
 generalize hrng:(τ.mem.map fun p=>ren L p.1)=rng at hnd hT hM
 have hrng':=hrng.symm
 have hcr:∀ (u v:AV) (x:Value),CRep c σ.mem Γ w u x->LeC (look σ.mem) (look τ.mem) (ren L) rng u v->CRep c τ.mem (Γ.ren (ren L)) w v x:=fun _ _ _ h1 h2=>wk_crep hs hrng' hM h1 h2
 have har:∀ (u v:AV) (x:Value),ARep c σ.mem Γ w u x->LeA (look σ.mem) (look τ.mem) (ren L) rng u v->ARep c τ.mem (Γ.ren (ren L)) w v x:=by
  intro u v x h1 h2
  cases v with
  | agg cs =>
   cases u with
   | agg cs0=>obtain ⟨us,rfl,h1⟩:=h1; exact ⟨us,rfl,All2.imp2 hcr h1 h2⟩
   | _=>exact h2.elim
  | _ =>
   simp only [LeA] at h2
   have h3:=hcr _ _ x (arep_cell h1 (LeC_cell h2)) h2
   simp only [ARep]; exact h3
 have hvr:∀ (u v:AV) (x:Value),VRep c σ.mem Γ w u x->LeV (look σ.mem) (look τ.mem) (ren L) rng u v->VRep c τ.mem (Γ.ren (ren L)) w v x:=by
  intro u v x h1 h2
  cases v with
  | junk=>trivial
  | tup vs =>
   cases u with
   | tup us0=>obtain ⟨us,rfl,h1⟩:=h1; exact ⟨us,rfl,All2.imp2 har h1 h2⟩
   | _=>exact h2.elim
  | agg cs =>
   cases u with
   | agg cs0=>exact har (.agg cs0) (.agg cs) x h1 h2
   | _=>exact h2.elim
  | _ =>
   simp only [LeV,LeA] at h2
   have h3:=hcr _ _ x (vrep_cell h1 (LeC_cell h2)) h2
   simp only [VRep,ARep]; exact h3
 refine ⟨Γ.ren (ren L),fun d v hd=>?_,fun k B hk=>?_,fun k k' B B' b hk hk' hb hb'=>?_,fun k k' B B' b hk hk' hne hb hb'=>?_,hs.below,hs.hb,hs.defs,hs.sz⟩
 ·obtain ⟨u,h1,h2⟩:=wkT_get hT hd
  obtain ⟨x,h3,h4⟩:=hs.tm d u h1
  exact ⟨x,h3,hvr _ _ _ h4 h2⟩
 ·have hwb:=wkM_get hM hk
  cases B with
  | bx xo cs =>
   simp only [wkB] at hwb
   split at hwb
   ·rename_i x0 cs0 hk0
    obtain ⟨rfl,hwb⟩:=hwb
    obtain ⟨e1,us,e,e2,e3⟩:=hs.mm _ _ hk0
    exact ⟨e1,us,e,e2,All2.imp2 hcr e3 hwb⟩
   ·exact hwb.elim
  | row e t v o l =>
   simp only [wkB] at hwb
   split at hwb
   ·rename_i e0 t0 v0 o0 l0 hk0
    obtain ⟨rfl,hdd,ho⟩:=hwb
    injection hdd with d1 d2
    subst d1
    obtain rfl:=eq_of_heq d2
    obtain ⟨fps,e1,e2,e3,e4⟩:=hs.mm _ _ hk0
    exact ⟨fps,e1,e2,fun b hb=>wk_Gd hM (e3 b hb),fun h=>e4 (ho h)⟩
   ·exact hwb.elim
  | odat t l =>
   simp only [wkB] at hwb
   split at hwb
   ·rename_i t0 l0 hk0
    injection hwb with d1 d2
    subst d1
    obtain rfl:=eq_of_heq d2
    obtain ⟨e1,e2,e3⟩:=hs.mm _ _ hk0
    exact ⟨e1,fun b hb=>wk_Gd hM (e2 b hb),e3⟩
   ·exact hwb.elim
  | mine t l =>
   simp only [wkB] at hwb
   split at hwb
   ·rename_i t0 l0 hk0
    injection hwb with d1 d2
    subst d1
    obtain rfl:=eq_of_heq d2
    exact hs.mm _ _ hk0
   ·exact hwb.elim
  | ob x v d =>
   simp only [wkB] at hwb
   split at hwb
   ·rename_i x0 v0 d0 hk0
    obtain ⟨rfl,rfl⟩:=hwb
    exact hs.mm _ _ hk0
   ·rename_i e0 t0 v0 o0 l0 hk0
    obtain ⟨rfl,rfl,hfl,hne⟩:=hwb
    obtain ⟨fps,hg,_⟩:=hs.mm _ _ hk0
    exact que_of hg hfl hne
   ·exact hwb.elim
  | _=>exact hwb.elim
 ·obtain ⟨B0,h1,h2⟩:=wk_mut (wkM_get hM hk) hb
  obtain ⟨B1,h3,h4⟩:=wk_mut (wkM_get hM hk') hb'
  have:=hs.inj _ _ _ _ b h1 h3 h2 h4
  obtain ⟨q,hq,e⟩:=look_mem hk
  obtain ⟨q',hq',e'⟩:=look_mem hk'
  rw [<-hrng] at hnd
  have:=nodup_inj hnd hq hq' (by rw [e,e']; exact this)
  rw [<-e,<-e',this]
 ·obtain ⟨B0,h1,h2⟩:=wk_ofp (wkM_get hM hk) hb
  obtain ⟨B1,h3,h4⟩:=wk_ofp (wkM_get hM hk') hb'
  refine hs.disj _ _ _ _ b h1 h3 (fun he=>hne ?_) h2 h4
  obtain ⟨q,hq,e⟩:=look_mem hk
  obtain ⟨q',hq',e'⟩:=look_mem hk'
  rw [<-hrng] at hnd
  have:=nodup_inj hnd hq hq' (by rw [e,e']; exact he)
  rw [<-e,<-e',this]
end
section
variable (P:Program) (T:TypeId->Option Ty) (n:Nat)
def thenA (next:St->Prop) (Q:Exit->St->Prop):Exit->St->Prop
 | .normal,σ=>next σ
 | e,σ=>Q e σ
def inBlk (id:Nat) (Q:Exit->St->Prop):Exit->St->Prop
 | .exit i,σ=>if i=id then Q .normal σ else Q (.exit i) σ
 | e,σ=>Q e σ
def AC:Code->(Exit->St->Prop)->St->Prop
 | .skip,Q,σ=>Q .normal σ
 | .region _ ops draw,Q,σ =>
  match draw with
  | true=>AO P T n ops.toList ops.toList σ [] (fun σ' tr=>okTr ops.toList tr=true/\Q .normal σ')
  | false=>AO P T n ops.toList ops.toList σ [] (fun σ' _=>Q .normal σ')
 | .seq x y,Q,σ=>AC x (thenA (fun σ'=>AC y Q σ') Q) σ
 | .cond c x y,Q,σ =>
  match ev (look σ.tmps) c with
  | some (.sc (.bool b))=>(b=true->AC x Q σ)/\(b=false->AC y Q σ)
  | some (.nb p q)=>(p->AC x Q σ)/\(q->AC y Q σ)
  | _=>False
 | .block id x,Q,σ=>AC x (inBlk id Q) σ
 | .loop x,Q,σ=>∃ (δ:Type) (S:δ->St) (ok:δ->Prop) (μ:δ->Nat) (x0:δ),Wk σ (S x0)/\ok x0/\∀ y,ok y->AC x (thenA (fun σ'=>∃ y',Wk σ' (S y')/\ok y'/\μ y' < μ y) Q) (S y)
 | .exit id,Q,σ=>Q (.exit id) σ
 | .ret,Q,σ=>Q .ret σ
 | _,_,_=>False
end
section
variable {P:Program} {T:TypeId->Option Ty} {c:Cx} [Nonempty (CG P c)]
theorem AC_wp (hT:TabOK P T) (hmix:P.follows .mixedOrders=true):∀ {x:Code} {Q:Exit->St->Prop} {Q':Exit->Act->World->Prop} {σ:St} {Γ:Asg} {a:Act} {w:World},AC P T c.n x Q σ->Sim c σ Γ a w →
  (∀ e σ' Γ' a' w',Q e σ'->Sim c σ' Γ' a' w'->Q' e a' w')->x.wp P Q' a w
 | .skip,Q,Q',σ,Γ,a,w,h,hs,hQ=>wp_skip (hQ _ _ _ _ _ h hs)
 | .region id ops draw,Q,Q',σ,Γ,a,w,h,hs,hQ=>by
  obtain ⟨l⟩:=ops
  cases draw with
  | true=>exact region_draw hT hmix hs h fun σ' Γ' a' w' hq hs'=>hQ _ _ _ _ _ hq hs'
  | false=>exact region_text hT hs h fun σ' Γ' a' w' hq hs'=>hQ _ _ _ _ _ hq hs'
 | .seq x y,Q,Q',σ,Γ,a,w,h,hs,hQ=>by
  refine wp_seq (AC_wp hT hmix (show AC P T c.n x _ σ from h) hs fun e σ' Γ' a' w' hq hs'=>?_)
  cases e with
  | normal=>exact AC_wp hT hmix (show AC P T c.n y Q σ' from hq) hs' hQ
  | _=>exact hQ _ _ _ _ _ hq hs'
 | .cond k x y,Q,Q',σ,Γ,a,w,h,hs,hQ=>by
  simp only [AC] at h
  split at h
  ·rename_i b hb
   have hv:a.eval k=.bool b:=(ev_rep hs (fun t _=>rfl) hb:VRep c σ.mem Γ w _ (a.eval k)).1
   cases b with
   | true=>exact wp_cond_true hv (AC_wp hT hmix (h.1 rfl) hs hQ)
   | false=>exact wp_cond_false hv (AC_wp hT hmix (h.2 rfl) hs hQ)
  ·rename_i p q hb
   obtain ⟨b,hv,hp,hq⟩:=(ev_rep hs (fun t _=>rfl) hb:VRep c σ.mem Γ w _ (a.eval k))
   cases b with
   | true=>exact wp_cond_true hv (AC_wp hT hmix (h.1 (hp rfl)) hs hQ)
   | false=>exact wp_cond_false hv (AC_wp hT hmix (h.2 (hq rfl)) hs hQ)
  ·exact h.elim
 | .block id x,Q,Q',σ,Γ,a,w,h,hs,hQ=>by
  refine wp_block (AC_wp hT hmix (show AC P T c.n x _ σ from h) hs fun e σ' Γ' a' w' hq hs'=>?_)
  cases e with
  | exit i =>
   simp only [inBlk,Exit.inBlock] at hq ⊢
   split
   ·rename_i e; rw [if_pos e] at hq; exact hQ _ _ _ _ _ hq hs'
   ·rename_i e; rw [if_neg e] at hq; exact hQ _ _ _ _ _ hq hs'
  | _=>exact hQ _ _ _ _ _ hq hs'
 | .loop x,Q,Q',σ,Γ,a,w,h,hs,hQ=>by
  obtain ⟨δ,S,ok,μ,x0,hw0,hk0,hround⟩:=h
  have hmin:∀ (a:Act) (w:World),(∃ m,∃ y Γ,ok y/\Sim c (S y) Γ a w/\μ y=m)->∃ m,(∃ y Γ,ok y/\Sim c (S y) Γ a w/\μ y=m)/\∀ y Γ,ok y->Sim c (S y) Γ a w->m<=μ y:=by
   rintro a w ⟨m,hm⟩
   induction m using Nat.strongRecOn with
   | _ m ih =>
    by_cases hlt:∃ y Γ,ok y/\Sim c (S y) Γ a w/\μ y < m
    ·obtain ⟨y,Γ,h1,h2,h3⟩:=hlt
     exact ih (μ y) h3 ⟨y,Γ,h1,h2,rfl⟩
    ·refine ⟨m,hm,fun y Γ h1 h2=>?_⟩
     rcases Nat.lt_or_ge (μ y) m with h3|h3
     ·exact absurd ⟨y,Γ,h1,h2,h3⟩ hlt
     ·exact h3
  have hfun:∃ ν:Act->World->Nat,∀ a w,(∃ m,∃ y Γ,ok y/\Sim c (S y) Γ a w/\μ y=m)->(∃ y Γ,ok y/\Sim c (S y) Γ a w/\μ y=ν a w)/\∀ y Γ,ok y->Sim c (S y) Γ a w->ν a w<=μ y:=by
   refine ⟨fun a w=>@dite _ (∃ m,∃ y Γ,ok y/\Sim c (S y) Γ a w/\μ y=m) (Classical.propDecidable _) (fun h=>Classical.choose (hmin a w h)) (fun _=>0),fun a w h=>?_⟩
   simp only [dif_pos h]
   exact Classical.choose_spec (hmin a w h)
  obtain ⟨ν,hν⟩:=hfun
  obtain ⟨Γ0,hs0⟩:=wk_sim hs hw0
  refine wp_loop (fun a w=>∃ y Γ,ok y/\Sim c (S y) Γ a w) ν ⟨x0,Γ0,hk0,hs0⟩ fun a1 w1 hI=>?_
  obtain ⟨y0,Γ1,h1,h2⟩:=hI
  obtain ⟨⟨y,Γ2,h3,h4,h5⟩,h6⟩:=hν a1 w1 ⟨_,y0,Γ1,h1,h2,rfl⟩
  refine AC_wp hT hmix (hround y h3) h4 fun e σ' Γ' a' w' hq hs'=>?_
  cases e with
  | normal =>
   obtain ⟨y',hwk,hk',hlt⟩:=hq
   obtain ⟨Γ3,hs3⟩:=wk_sim hs' hwk
   refine ⟨⟨y',Γ3,hk',hs3⟩,?_⟩
   have:=(hν a' w' ⟨_,y',Γ3,hk',hs3,rfl⟩).2 y' Γ3 hk' hs3
   omega
  | _=>exact hQ _ _ _ _ _ hq hs'
 | .exit id,Q,Q',σ,Γ,a,w,h,hs,hQ=>wp_exit (hQ _ _ _ _ _ h hs)
 | .ret,Q,Q',σ,Γ,a,w,h,hs,hQ=>wp_ret (hQ _ _ _ _ _ h hs)
 | .rangeFunc ..,_,_,_,_,_,_,h,_,_=>h.elim
 | .scope _,_,_,_,_,_,_,h,_,_=>h.elim
 | .label _,_,_,_,_,_,_,h,_,_=>h.elim
 | .goto _,_,_,_,_,_,_,h,_,_=>h.elim
 | .refuse _,_,_,_,_,_,_,h,_,_=>h.elim
end
def Wf:(t:Ty)->t.den->Prop
 | .int,n=>I64 n
 | .bool,_=>True
 | .str,s=>s.size<=maxLen
 | .u8,n=>0<=n/\n<=255
 | .cst _,_=>True
 | .prod a b,x=>Wf a x.1/\Wf b x.2
 | .slice a,l=>l.length<=maxLen/\∀ x ∈ l,Wf a x
 | .ext e a,x=>∀ y,x=some y->e=.ref->Wf a y
theorem rep_wf {w:World}:∀ {t:Ty} {x:t.den} {cs:List Value} {fp:List Nat},t.rp.rep w cs x fp->Wf t x
 | .int,_,_,_,h=>h.2.2
 | .bool,_,_,_,_=>trivial
 | .str,_,_,_,h=>h.2.2
 | .u8,_,_,_,h=>h.2.2
 | .cst _,_,_,_,_=>trivial
 | .prod a b,x,cs,fp,h=>by obtain ⟨c1,c2,f1,f2,_,_,h1,h2⟩:=h; exact ⟨rep_wf h1,rep_wf h2⟩
 | .ext e a,x,cs,fp,h=>by
  intro y hy he
  subst hy he
  obtain ⟨_,_,_,_,_,_,hr,_⟩:=h
  exact rep_wf hr
 | .slice a,l,cs,fp,h=>by
  obtain ⟨ad,cc,rfl,h2,h3,h4⟩:=h
  refine ⟨Nat.le_trans h2 h3,fun x hx=>?_⟩
  rcases h4 with ⟨rfl,_⟩|⟨b,off,fps,hl,_,_,_,he⟩
  ·cases hx
  ·obtain ⟨i,hi,rfl⟩:=List.getElem_of_mem hx
   obtain ⟨f,cs,_,hr,_⟩:=he i _ (List.getElem?_eq_getElem hi)
   exact rep_wf hr
section
variable (T:TypeId->Option Ty) (σ:St)
def aRes:ResultVar->Option AV
 | .tmp t=>look σ.tmps t
 | .cell t ty =>
  match T ty,look σ.tmps t with
  | some tt,some (.ptr k off) =>
   match look σ.mem k with
   | some (.bx _ cs)=>if off+tt.size<=cs.length then some (getC tt cs off) else none
   | _=>none
  | _,_=>none
def OwnA (v:AV):Prop:=(cellsOf v).all (OwnC σ)=true/\(cellRows (cellsOf v)).Nodup
def RetOK (own:Bool) (rs:List ResultVar) (res:List Dat):Prop :=
 match rs,res with
 | [r],[d] =>
  match aRes T σ r with
  | some v=>v.ok=true/\IsV (look σ.mem) d v/\(own=true->OwnA σ v)
  | none=>False
 | rs,ds=>rs.length ≠ 1/\All2 (fun r d=>match aRes T σ r with
  | some v=>v.ok=true/\IsV (look σ.mem) d v
  | none=>False) rs ds
end
def argTm (i:Nat):List Dat->Tm
 | []=>[]
 | d :: ds=>(i,av d.1 d.2) :: argTm (i+1) ds
section
variable {P:Program} {T:TypeId->Option Ty} {c:Cx} {σ:St} {Γ:Asg} {a:Act} {w:World}
def resM (tmps:Array Value):ResultVar->Sem Value
 | .tmp t=>pure (tmps.getD t undef)
 | .cell x t=>do loadVar t (<-asAddr (tmps.getD x undef))
theorem results_eq (fn:Func) (tmps:Array Value):results fn tmps=(do let vs <-fn.results.mapM (resM tmps); pure (if h:vs.size=1 then vs[0] else .tuple vs)):=by
 have:(resM tmps)=fun r=>(match r with|.tmp t=>pure (tmps.getD t undef)|.cell x t=>do loadVar t (<-asAddr (tmps.getD x undef)):Sem Value):=by funext r; cases r<;>rfl
 rw [this]; rfl
theorem aRes_run (hT:TabOK P T) (hs:Sim c σ Γ a w) {r:ResultVar} {v:AV} (h:aRes T σ r=some v) (hok:v.ok=true) :
  ∃ u,(resM a.tmps r).run P w=.ok u w/\ARep c σ.mem Γ w v u:=by
 cases r with
 | tmp t =>
  obtain ⟨u,h1,h2⟩:=hs.tm t v h
  refine ⟨u,?_,ok_arep h2 hok⟩
  simp only [resM,Sem.run_pure]
  rw [Array.getD_eq_getD_getElem?,h1]; rfl
 | cell t ty =>
  simp only [aRes] at h
  split at h
  ·rename_i tt k off ht hp
   split at h
   ·rename_i xo cs hk
    split at h
    ·rename_i hle
     injection h with h
     subst h
     obtain ⟨us,e,hg,hc⟩:=box_cell hs hk
     obtain ⟨u,h1,h2⟩:=hs.tm t _ hp
     have h2':u=.pointer (some ⟨Γ.loc k xo,off,none⟩):=by
      obtain ⟨xo',cs',hq,he⟩:=h2
      rw [hk] at hq; cases hq; exact he
     subst h2'
     have hlen:=hc.len
     have hrun:=run_loadVar (P:=P) (hT ty tt ht) (w:=w) (b:=Γ.loc k xo) (off:=off) (us:=(us.toList.drop off).take tt.size) (fun j v hv=>by
      rw [List.getElem?_take] at hv
      split at hv
      ·rw [List.getElem?_drop,Array.getElem?_toList] at hv
       rw [cell_of_row w _ _ us e (0,0) hg]; exact hv
      ·cases hv) (by rw [hlen] at hle; rw [List.length_take,List.length_drop]; omega)
     have hgc:=getC_rep hc hle
     refine ⟨_,?_,hgc⟩
     simp only [resM,Array.getD_eq_getD_getElem?,h1,Option.getD_some,asAddr,Sem.run_bind,Sem.run_pure,Result.andThen_ok,hrun]
     cases ha:tt.isAgg with
     | true=>rfl
     | false =>
      simp only [Bool.false_eq_true,if_false]
      have:=tt.pos; rw [tt.rp_size] at this
      rw [List.getD_eq_getElem?_getD,List.getElem?_take,if_pos this,List.getElem?_drop,Nat.add_zero,List.getD_eq_getElem?_getD]
    ·cases h
   ·cases h
  ·cases h
theorem argTm_ge:∀ {ds:List Dat} {i d:Nat} {v:AV},look (argTm i ds) d=some v->i<=d/\d < i+ds.length/\∃ e,ds[d - i]? = some e/\v=av e.1 e.2
 | [],_,_,_,h=>by cases h
 | e :: ds,i,d,v,h=>by
  simp only [argTm,look] at h
  split at h
  ·rename_i hd; injection h with h; subst hd h; exact ⟨Nat.le_refl _,by simp,e,by simp,rfl⟩
  ·obtain ⟨h1,h2,e',h3,h4⟩:=argTm_ge h
   refine ⟨by omega,by simp; omega,e',?_,h4⟩
   rw [show d - i=(d - (i+1))+1 by omega]; exact h3
theorem ret_ok (hT:TabOK P T) {fn:Func} {own:Bool} {res:List Dat} (hs:Sim c σ Γ a w) (h:RetOK T σ own fn.results.toList res):∃ v,(results fn a.tmps).run P w=.ok v w/\ResOK own c.base c.S w v res:=by
 unfold RetOK at h
 have hone:∀ {r:ResultVar} {d:Dat} {v:AV} {u:Value},ARep c σ.mem Γ w v u->IsV (look σ.mem) d v->DRes false c.base c.S w u d:=by
  intro r d v u hr hi
  obtain ⟨fp,h1,h2,_⟩:=hs.isVRep hr hi
  exact ⟨fp,h1,(fun h=>by cases h),h2⟩
 split at h
 ·rename_i r d hr
  split at h
  ·rename_i v hv
   obtain ⟨hok,hi,hown⟩:=h
   obtain ⟨u,h1,h2⟩:=aRes_run (P:=P) hT hs hv hok
   have hfr:fn.results=#[r]:=toList1 hr
   refine ⟨u,?_,?_⟩
   ·rw [results_eq,hfr,List.mapM_toArray,map_eq_pure_bind,Sem.run_bind,Sem.run_bind]
    simp only [List.mapM_cons,List.mapM_nil,Sem.run_bind,h1,Result.andThen_ok,Sem.run_pure]
    simp
   ·cases own with
    | false=>exact hone (r:=r) h2 hi
    | true =>
     obtain ⟨ho,hn⟩:=hown rfl
     cases v with
     | agg cs =>
      obtain ⟨us,rfl,hc⟩:=h2
      obtain ⟨fp,r1,o1,_⟩:=hs.ownRep hc hi.2 ho hn
      exact ⟨fp,⟨us,.inl ⟨hi.1,rfl⟩,r1⟩,fun _=>o1,fun b hb=>.inr (o1.2 b hb).1⟩
     | junk=>cases hok
     | tup _=>cases hok
     | _ =>
      have h2':=h2
      simp only [ARep] at h2'
      obtain ⟨fp,r1,o1,_⟩:=hs.ownRep (cs:=[_]) (us:=[u]) (And.intro h2' trivial) hi.2 ho hn
      exact ⟨fp,⟨[u],.inr ⟨hi.1,rfl⟩,r1⟩,fun _=>o1,fun b hb=>.inr (o1.2 b hb).1⟩
  ·exact h.elim
 ·rename_i ds _ _ hnot
  obtain ⟨hl1,h⟩:=h
  have key:∀ {rs:List ResultVar} {ds:List Dat},All2 (fun r d=>match aRes T σ r with
    | some v=>v.ok=true/\IsV (look σ.mem) d v
    | none=>False) rs ds->∃ us:List Value,(rs.mapM (resM a.tmps)).run P w=.ok us w/\us.length=rs.length/\All2 (DRes false c.base c.S w) us ds:=by
   intro rs
   induction rs with
   | nil=>intro ds h; cases ds with|nil=>exact ⟨[],rfl,rfl,trivial⟩|cons=>exact h.elim
   | cons r rs ih =>
    intro ds h
    cases ds with
    | nil=>exact h.elim
    | cons d ds =>
     obtain ⟨h1,h2⟩:=h
     split at h1
     ·rename_i v hv
      obtain ⟨u,g1,g2⟩:=aRes_run (P:=P) hT hs hv h1.1
      obtain ⟨us,g3,g4,g5⟩:=ih h2
      refine ⟨u :: us,?_,by simp [g4],hone (r:=r) g2 h1.2,g5⟩
      simp only [List.mapM_cons,Sem.run_bind,g1,g3,Result.andThen_ok,Sem.run_pure]
     ·exact h1.elim
  obtain ⟨us,h1,h2,h3⟩:=key h
  have hfr:fn.results=fn.results.toList.toArray:=by simp
  refine ⟨.tuple us.toArray,?_,?_⟩
  ·rw [results_eq,hfr,List.mapM_toArray,map_eq_pure_bind,Sem.run_bind,Sem.run_bind,h1]
   simp only [Result.andThen_ok,Sem.run_pure]
   rw [dif_neg (by simp only [List.size_toArray]; omega)]
  ·cases ds with
   | nil=>exact ⟨us,rfl,h3⟩
   | cons d ds =>
    cases ds with
    | nil =>
     have:=h3.len
     simp at this
     omega
    | cons d' ds=>exact ⟨us,rfl,h3⟩
theorem fn_gen (hT:TabOK P T) (hmix:P.follows .mixedOrders=true) {f:FuncId} {fn:Func} {code:Code} {args:List Dat} {RQ:St->Prop} {VQ:Nat->(Nat->Prop)->World->Value->Prop} (hf:P.funcs[f]? = some fn) (hname:(fn.name == "runtime.NumGoroutine")=false) (hb:fn.body=some code) (hn:args.length<=fn.ntmps)
  (hret:∀ (c:Cx) (σ:St) (Γ:Asg) (a:Act) (w:World),Sim c σ Γ a w->RQ σ->∃ v,(results fn a.tmps).run P w=.ok v w/\VQ c.base c.S w v)
  (h:(∀ d ∈ args,Wf d.1 d.2)->AC P T fn.ntmps code (fun e σ=>match e with
   | .normal|.ret=>RQ σ
   | _=>False) ⟨argTm 0 args,[]⟩):(∀ vs w,(callFunc f vs).run P w=.ok (.enter f vs) w) ∧
  ∀ (w:World) (vs:List Value) (S:Nat->Prop),Gw P w->All2 (fun v d=>∃ fp,DRep w v d fp/\∀ b ∈ fp,S b) vs args →
   Calls P f vs.toArray w fun e w'=>Below w.heap.size w w'/\∃ v,e=.returned v/\VQ w.heap.size S w' v:=by
 refine ⟨fun vs w=>?_,fun w vs S hgw hargs=>?_⟩
 ·have h1:fn.name ≠ "runtime.NumGoroutine":=by simpa using hname
  simp [callFunc,hf,h1,hb]
 ·refine calls_of_wp hf hb ?_
  have hwf:∀ d ∈ args,Wf d.1 d.2:=by
   clear h hn
   revert hargs
   generalize args=ds
   intro hargs
   induction ds generalizing vs with
   | nil=>intro d hd; cases hd
   | cons d ds ih =>
    cases vs with
    | nil=>exact hargs.elim
    | cons v vs =>
     obtain ⟨⟨fp,⟨cs,_,hr⟩,_⟩,h2⟩:=hargs
     intro d' hd'
     rcases List.mem_cons.1 hd' with rfl|hd'
     ·exact rep_wf hr
     ·exact ih vs h2 d' hd'
  have hlen:=hargs.len
  let c:Cx:=⟨w.heap.size,w,S,fn.ntmps,fun _=>False⟩
  have hlt:∀ {d:Dat} {v:Value} {fp:List Nat},DRep w v d fp->∀ b ∈ fp,b < w.heap.size:=fun ⟨cs,_,hr⟩=>(Ty.rp _).lt hr
  have hs:Sim c ⟨argTm 0 args,[]⟩ ⟨fun _=>0,fun _=>undef,fun _=>[]⟩ { tmps:=vs.toArray++Array.replicate (fn.ntmps - vs.toArray.size) undef,defers:=[] } w:=by
   refine ⟨fun d v hd=>?_,fun k B hk=>(by cases hk),fun k k' B B' b hk=>(by cases hk),fun k k' B B' b hk=>(by cases hk),.of (Below.refl _ _),Nat.le_refl _,rfl,by simp [c]; omega⟩
   obtain ⟨_,h2,e,h3,rfl⟩:=argTm_ge hd
   have hdl:d < vs.length:=by omega
   have hx:∃ u,vs[d]? = some u/\∃ fp,DRep w u e fp/\∀ b ∈ fp,S b:=by
    have hh:∀ {ds:List Dat} {vs:List Value} {d:Nat},All2 (fun v d=>∃ fp,DRep w v d fp/\∀ b ∈ fp,S b) vs ds->ds[d]? = some e->∃ u,vs[d]? = some u/\∃ fp,DRep w u e fp/\∀ b ∈ fp,S b:=by
     intro ds
     induction ds with
     | nil=>intro vs d _ h; simp at h
     | cons d0 ds ih =>
      intro vs d hA h
      cases vs with
      | nil=>exact hA.elim
      | cons v vs =>
       cases d with
       | zero=>simp at h; subst h; exact ⟨v,rfl,hA.1⟩
       | succ d=>simpa using ih hA.2 (by simpa using h)
    exact hh hargs (by simpa using h3)
   obtain ⟨u,hu,fp,hdr,hS⟩:=hx
   refine ⟨u,?_,arep_vrep (av_rep hdr fun b hb=>⟨.inl (hS b hb),fun ⟨k,B,hk,_⟩=>by cases hk⟩)⟩
   rw [Array.getElem?_append_left (by simpa using hdl)]
   simpa using hu
  have hcg:Nonempty (CG P c):=⟨CG.of hgw fun _ _ h=>h⟩
  refine AC_wp (c:=c) hT hmix (h hwf) hs fun e σ' Γ' a' w' hq hs'=>?_
  cases e with
  | normal =>
   obtain ⟨v,h1,h2⟩:=hret _ _ _ _ _ hs' hq
   exact ⟨hs'.defs,v,h1,hs'.below.to,v,rfl,h2⟩
  | ret =>
   obtain ⟨v,h1,h2⟩:=hret _ _ _ _ _ hs' hq
   exact ⟨hs'.defs,v,h1,hs'.below.to,v,rfl,h2⟩
  | _=>exact hq.elim
theorem fn_intro (hT:TabOK P T) (hmix:P.follows .mixedOrders=true) {f:FuncId} {fn:Func} {code:Code} {args:List Dat} {own:Bool} {res:List Dat} (hf:P.funcs[f]? = some fn) (hname:(fn.name == "runtime.NumGoroutine")=false) (hb:fn.body=some code) (hn:args.length<=fn.ntmps)
  (h:(∀ d ∈ args,Wf d.1 d.2)->AC P T fn.ntmps code (fun e σ=>match e with
   | .normal|.ret=>RetOK T σ own fn.results.toList res
   | _=>False) ⟨argTm 0 args,[]⟩):Fn P f args own res :=
 fn_gen (VQ:=fun b S w v=>ResOK own b S w v res) hT hmix hf hname hb hn (fun c σ Γ a w hs hq=>ret_ok (P:=P) hT hs hq) h
def RetT (T:TypeId->Option Ty) (rs:List ResultVar) (res:List Dat) (σ:St):Prop :=
 rs.length ≠ 1/\All2 (fun r d=>match aRes T σ r with
  | some v=>v.ok=true/\IsV (look σ.mem) d v/\OwnA σ v
  | none=>False) rs res
end
section
variable (P:Program) (T:TypeId->Option Ty) (n:Nat)
def KAO (ops os:List Oper) (σ:St) (d:Option Nat) (tr:Tr) (Q:St->Tr->Prop) (e:Eff):Prop:=AO P T n ops os (σ.app d e) (tr++[e.te]) Q
def KAC (y:Code) (Q:Exit->St->Prop) (σ:St):Prop:=AC P T n y Q σ
def KN (Q:Exit->St->Prop) (σ:St) (_:Tr):Prop:=Q .normal σ
def KD (ops:List Oper) (Q:Exit->St->Prop) (σ:St) (tr:Tr):Prop:=okTr ops tr=true/\Q .normal σ
def KR (rs:List ResultVar) (own:Bool) (res:List Dat) (e:Exit) (σ:St):Prop :=
 match e with
 | .normal|.ret=>RetOK T σ own rs res
 | _=>False
def KRT (rs:List ResultVar) (res:List Dat) (e:Exit) (σ:St):Prop :=
 match e with
 | .normal|.ret=>RetT T rs res σ
 | _=>False
def LoopG (x:Code) (Q:Exit->St->Prop) (σ:St):Prop:=∃ (δ:Type) (S:δ->St) (ok:δ->Prop) (μ:δ->Nat) (x0:δ),Wk σ (S x0)/\ok x0/\∀ y,ok y->AC P T n x (thenA (fun σ'=>∃ y',Wk σ' (S y')/\ok y'/\μ y' < μ y) Q) (S y)
def LoopK {δ:Type} (S:δ->St) (ok:δ->Prop) (μ:δ->Nat) (y:δ) (σ':St):Prop:=∃ y',Wk σ' (S y')/\ok y'/\μ y' < μ y
theorem LoopG.intro {x:Code} {Q:Exit->St->Prop} {σ:St} {δ:Type} (S:δ->St) (ok:δ->Prop) (μ:δ->Nat) (x0:δ) (h1:Wk σ (S x0)) (h2:ok x0) (h3:∀ y,ok y->AC P T n x (thenA (LoopK S ok μ y) Q) (S y)):LoopG P T n x Q σ:=⟨δ,S,ok,μ,x0,h1,h2,h3⟩
theorem LoopK.mk {δ:Type} {S:δ->St} {ok:δ->Prop} {μ:δ->Nat} {y:δ} {σ':St} (y':δ) (h1:Wk σ' (S y')) (h2:ok y') (h3:μ y' < μ y):LoopK S ok μ y σ':=⟨y',h1,h2,h3⟩
def WkL (L:List (Nat × Nat)) (σ τ:St):Prop:=((τ.mem.map fun p=>ren L p.1).Nodup)/\wkT (look σ.mem) (look τ.mem) (ren L) (τ.mem.map fun p=>ren L p.1) σ.tmps τ.tmps/\wkM (look σ.mem) (look τ.mem) (ren L) (τ.mem.map fun p=>ren L p.1) τ.mem
theorem Wk.mk {σ τ:St} (L:List (Nat × Nat)) (h:WkL L σ τ):Wk σ τ:=⟨L,h⟩
variable {P T n} {ops os:List Oper} {o:Oper} {σ:St} {tr:Tr} {Q:St->Tr->Prop} {QA:Exit->St->Prop} {x y:Code} {i j:Nat} {e:Eff}
@[go_sem] theorem KAO_app {d:Option Nat}:KAO P T n ops os σ d tr Q e=AO P T n ops os (σ.app d e) (tr++[e.te]) Q:=(rfl)
@[go_sem] theorem KAC_app:KAC P T n y QA σ=AC P T n y QA σ:=(rfl)
@[go_sem] theorem KN_app:KN QA σ tr=QA .normal σ:=(rfl)
@[go_sem] theorem KD_app:KD ops QA σ tr=(okTr ops tr=true/\QA .normal σ):=(rfl)
@[go_sem] theorem AO_nil:AO P T n ops [] σ tr Q=Q σ tr:=(rfl)
@[go_sem] theorem AO_cons {d:Option Nat} {op:Op} {t:TypeId} {ps:String} {af:Array Edge}:AO P T n ops (⟨d,op,t,ps,af,none⟩ :: os) σ tr Q =
  ((match d with|some d=>d < n|none=>True)/\aStep P T (look σ.tmps) (look σ.mem) (fresh σ.mem) (KAO P T n ops os σ d tr Q) ⟨d,op,t,ps,af,none⟩):=(rfl)
def Guarded (P:Program) (T:TypeId->Option Ty) (n:Nat) (ops os:List Oper) (o:Oper) (σ:St) (tr:Tr) (Q:St->Tr->Prop) (want:Bool) (g:Option Nat):Prop :=
 match g with
 | some g =>
  match look σ.tmps g with
  | some (.sc (.bool b)) =>
   (b=want->aStep P T (look ((g,.sc (.bool want)) :: σ.tmps)) (look σ.mem) (fresh σ.mem) (KAO P T n ops os ⟨(g,.sc (.bool want)) :: σ.tmps,σ.mem⟩ o.dst tr Q) o) ∧
   (b=!want->AO P T n ops os (St.app ⟨(g,.sc (.bool (!want))) :: σ.tmps,σ.mem⟩ o.dst .skip) (tr++[Eff.te .skip]) Q)
  | some (.tup _)=>AO P T n ops os (σ.app o.dst .skip) (tr++[Eff.te .skip]) Q
  | _=>False
 | none=>False
@[go_sem] theorem AO_guard {d:Option Nat} {op:Op} {t:TypeId} {ps:String} {af:Array Edge} {want:Bool}:AO P T n ops (⟨d,op,t,ps,af,some (j,want)⟩ :: os) σ tr Q =
  ((match d with|some d=>d < n|none=>True)/\Guarded P T n ops os ⟨d,op,t,ps,af,some (j,want)⟩ σ tr Q want (gslot ops j)):=(rfl)
def GuardW (P:Program) (T:TypeId->Option Ty) (n:Nat) (ops os:List Oper) (o:Oper) (σ:St) (tr:Tr) (Q:St->Tr->Prop) (want:Bool) (g:Nat) (v:Option AV):Prop :=
 match v with
 | some (.sc (.bool b)) =>
  (b=want->aStep P T (look ((g,.sc (.bool want)) :: σ.tmps)) (look σ.mem) (fresh σ.mem) (KAO P T n ops os ⟨(g,.sc (.bool want)) :: σ.tmps,σ.mem⟩ o.dst tr Q) o) ∧
  (b=!want->AO P T n ops os (St.app ⟨(g,.sc (.bool (!want))) :: σ.tmps,σ.mem⟩ o.dst .skip) (tr++[Eff.te .skip]) Q)
 | some (.tup _)=>AO P T n ops os (σ.app o.dst .skip) (tr++[Eff.te .skip]) Q
 | _=>False
@[go_sem] theorem Guarded_some {want:Bool} {g:Nat}:Guarded P T n ops os o σ tr Q want (some g)=GuardW P T n ops os o σ tr Q want g (look σ.tmps g):=(rfl)
@[go_sem] theorem GuardW_no {want:Bool} {g:Nat} {vs:List AV}:GuardW P T n ops os o σ tr Q want g (some (.tup vs))=AO P T n ops os (σ.app o.dst .skip) (tr++[Eff.te .skip]) Q:=(rfl)
@[go_sem] theorem GuardW_tt {g:Nat}:GuardW P T n ops os o σ tr Q true g (some (.sc (.bool true)))=aStep P T (look ((g,.sc (.bool true)) :: σ.tmps)) (look σ.mem) (fresh σ.mem) (KAO P T n ops os ⟨(g,.sc (.bool true)) :: σ.tmps,σ.mem⟩ o.dst tr Q) o:=by simp [GuardW]
@[go_sem] theorem GuardW_ff {g:Nat}:GuardW P T n ops os o σ tr Q false g (some (.sc (.bool false)))=aStep P T (look ((g,.sc (.bool false)) :: σ.tmps)) (look σ.mem) (fresh σ.mem) (KAO P T n ops os ⟨(g,.sc (.bool false)) :: σ.tmps,σ.mem⟩ o.dst tr Q) o:=by simp [GuardW]
@[go_sem] theorem GuardW_tf {g:Nat}:GuardW P T n ops os o σ tr Q true g (some (.sc (.bool false)))=AO P T n ops os (St.app ⟨(g,.sc (.bool false)) :: σ.tmps,σ.mem⟩ o.dst .skip) (tr++[Eff.te .skip]) Q:=by simp [GuardW]
@[go_sem] theorem GuardW_ft {g:Nat}:GuardW P T n ops os o σ tr Q false g (some (.sc (.bool true)))=AO P T n ops os (St.app ⟨(g,.sc (.bool true)) :: σ.tmps,σ.mem⟩ o.dst .skip) (tr++[Eff.te .skip]) Q:=by simp [GuardW]
@[go_sem] theorem AC_skip:AC P T n .skip QA σ=QA .normal σ:=(rfl)
@[go_sem] theorem AC_text {id:Nat} {l:List Oper}:AC P T n (.region id l.toArray false) QA σ=AO P T n l l σ [] (KN QA):=(rfl)
@[go_sem] theorem AC_draw {id:Nat} {l:List Oper}:AC P T n (.region id l.toArray true) QA σ=AO P T n l l σ [] (KD l QA):=(rfl)
@[go_sem] theorem AC_seq:AC P T n (.seq x y) QA σ=AC P T n x (thenA (KAC P T n y QA) QA) σ:=(rfl)
def CondW (P:Program) (T:TypeId->Option Ty) (n:Nat) (x y:Code) (Q:Exit->St->Prop) (σ:St) (v:Option AV):Prop :=
 match v with
 | some (.sc (.bool b))=>(b=true->AC P T n x Q σ)/\(b=false->AC P T n y Q σ)
 | some (.nb p q)=>(p->AC P T n x Q σ)/\(q->AC P T n y Q σ)
 | _=>False
@[go_sem] theorem AC_cond {k:Operand}:AC P T n (.cond k x y) QA σ=CondW P T n x y QA σ (ev (look σ.tmps) k):=(rfl)
@[go_sem] theorem CondW_t:CondW P T n x y QA σ (some (.sc (.bool true)))=AC P T n x QA σ:=by simp [CondW]
@[go_sem] theorem CondW_f:CondW P T n x y QA σ (some (.sc (.bool false)))=AC P T n y QA σ:=by simp [CondW]
theorem CondW_dec {p:Prop} {dp:Decidable p} (h1:p->AC P T n x QA σ) (h2:¬ p->AC P T n y QA σ):CondW P T n x y QA σ (some (.sc (.bool (@decide p dp)))) :=
 ⟨fun h=>h1 (of_decide_eq_true h),fun h=>h2 (of_decide_eq_false h)⟩
theorem CondW_b {b:Bool} (h1:b=true->AC P T n x QA σ) (h2:b=false->AC P T n y QA σ):CondW P T n x y QA σ (some (.sc (.bool b))):=⟨h1,h2⟩
theorem GuardW_dec {p:Prop} {dp:Decidable p} {g:Nat} (h1:p->aStep P T (look ((g,.sc (.bool true)) :: σ.tmps)) (look σ.mem) (fresh σ.mem) (KAO P T n ops os ⟨(g,.sc (.bool true)) :: σ.tmps,σ.mem⟩ o.dst tr Q) o)
  (h2:¬ p->AO P T n ops os (St.app ⟨(g,.sc (.bool false)) :: σ.tmps,σ.mem⟩ o.dst .skip) (tr++[Eff.te .skip]) Q):GuardW P T n ops os o σ tr Q true g (some (.sc (.bool (@decide p dp)))) :=
 ⟨fun h=>h1 (of_decide_eq_true h),fun h=>h2 (of_decide_eq_false h)⟩
theorem GuardW_decf {p:Prop} {dp:Decidable p} {g:Nat} (h1:¬ p->aStep P T (look ((g,.sc (.bool false)) :: σ.tmps)) (look σ.mem) (fresh σ.mem) (KAO P T n ops os ⟨(g,.sc (.bool false)) :: σ.tmps,σ.mem⟩ o.dst tr Q) o)
  (h2:p->AO P T n ops os (St.app ⟨(g,.sc (.bool true)) :: σ.tmps,σ.mem⟩ o.dst .skip) (tr++[Eff.te .skip]) Q):GuardW P T n ops os o σ tr Q false g (some (.sc (.bool (@decide p dp)))) :=
 ⟨fun h=>h1 (of_decide_eq_false h),fun h=>h2 (of_decide_eq_true h)⟩
@[go_sem] theorem AC_block {id:Nat}:AC P T n (.block id x) QA σ=AC P T n x (inBlk id QA) σ:=(rfl)
@[go_sem] theorem AC_loop:AC P T n (.loop x) QA σ=LoopG P T n x QA σ:=(rfl)
@[go_sem] theorem AC_exit {id:Nat}:AC P T n (.exit id) QA σ=QA (.exit id) σ:=(rfl)
@[go_sem] theorem AC_ret:AC P T n .ret QA σ=QA .ret σ:=(rfl)
variable {nt:St->Prop}
@[go_sem] theorem thenA_n:thenA nt QA .normal σ=nt σ:=(rfl)
@[go_sem] theorem thenA_e:thenA nt QA (.exit i) σ=QA (.exit i) σ:=(rfl)
@[go_sem] theorem thenA_r:thenA nt QA .ret σ=QA .ret σ:=(rfl)
@[go_sem] theorem inBlk_n:inBlk i QA .normal σ=QA .normal σ:=(rfl)
@[go_sem] theorem inBlk_e:inBlk i QA (.exit j) σ=if j=i then QA .normal σ else QA (.exit j) σ:=(rfl)
@[go_sem] theorem inBlk_r:inBlk i QA .ret σ=QA .ret σ:=(rfl)
@[go_sem] theorem KR_n {rs:List ResultVar} {own:Bool} {res:List Dat}:KR T rs own res .normal σ=RetOK T σ own rs res:=(rfl)
@[go_sem] theorem KR_r {rs:List ResultVar} {own:Bool} {res:List Dat}:KR T rs own res .ret σ=RetOK T σ own rs res:=(rfl)
@[go_sem] theorem KRT_n {rs:List ResultVar} {res:List Dat}:KRT T rs res .normal σ=RetT T rs res σ:=(rfl)
@[go_sem] theorem KRT_r {rs:List ResultVar} {res:List Dat}:KRT T rs res .ret σ=RetT T rs res σ:=(rfl)
@[go_sem] theorem fresh_nil:fresh []=0:=(rfl)
@[go_sem] theorem fresh_cons {k:Nat} {B:Blk} {M:Mm}:fresh ((k,B) :: M)=if k+1<=fresh M then fresh M else k+1:=by
 have e:fresh ((k,B) :: M)=max (k+1) (fresh M):=(rfl)
 rw [e]
 by_cases h:k+1<=fresh M
 ·rw [if_pos h,Nat.max_eq_right h]
 ·rw [if_neg h,Nat.max_eq_left (by omega)]
theorem NilW.non {K:Eff->Prop} {p:Prop} {rd:List Nat} {neg:Bool} (h:¬ p) (hk:K ⟨.sc (.bool neg),[],rd⟩):NilW K p rd neg:=.inl ⟨h,hk⟩
theorem NilW.ne {K:Eff->Prop} {p:Prop} {rd:List Nat} (hk:K ⟨.nb True p,[],rd⟩):NilW K p rd true:=.inr hk
theorem CallW.mk {P:Program} {lm:Nat->Option Blk} {nx:Nat} {K:Eff->Prop} {f:FuncId} {vs:List AV} {args:List Dat} {own:Bool} {res:List Dat} (h:Fn P f args own res) (hk:All2 (fun v d=>IsV (lmF lm (vs.flatMap AV.rows) (apartR own res)) d v) vs args/\K (callEff lm nx (vs.flatMap AV.rows) own res)):CallW P lm nx K f vs:=.inl ⟨args,own,res,h,hk.1,hk.2⟩
theorem CallW.mx {P:Program} {lm:Nat->Option Blk} {nx:Nat} {K:Eff->Prop} {f:FuncId} {vs:List AV} {args:List Dat} {own:Bool} {d:Dat} (h:Fn P f args own [d]) (hk:(own && d.1.plain || d.1.flat)=true/\All2 (fun v d=>IsV (lmX lm) d v) vs args/\K (xEff nx (vs.flatMap AV.rows) own d)):CallW P lm nx K f vs:=.inr (.inl ⟨args,own,d,h,hk.1,hk.2.1,hk.2.2⟩)
theorem CallW.m {P:Program} {lm:Nat->Option Blk} {nx:Nat} {K:Eff->Prop} {f:FuncId} {v:AV} {k r:Int} {t:Ty} {x x':t.den} (h:FnM P f t x x' k r) (hk:MkV lm t x v/\K ⟨.sc (.int .i64 r),mcel t x' (cellsOf v),v.rows⟩):CallW P lm nx K f [v,.sc (.int .i64 k)]:=.inr (.inr (.inl ⟨t,x,x',k,r,v,h,rfl,hk.1,hk.2⟩))
theorem CallW.s {P:Program} {lm:Nat->Option Blk} {nx:Nat} {K:Eff->Prop} {f:FuncId} {vs:List AV} {args:List Dat} {i:Nat} (h:FnS P f args i) (hk:All2 (fun v d=>IsV (lmX lm) d v) vs args/\∃ v,vs[i]? = some v/\K ⟨v,[],vs.flatMap AV.rows⟩):CallW P lm nx K f vs:=.inr (.inr (.inr (.inl ⟨args,i,hk.2.choose,h,hk.1,hk.2.choose_spec.1,hk.2.choose_spec.2⟩)))
theorem CallW.t {P:Program} {lm:Nat->Option Blk} {nx:Nat} {K:Eff->Prop} {f:FuncId} {vs:List AV} {args:List Dat} {d:Dat} {ds:List Dat} (h:FnT P f args (d :: ds)) (hk:(d.1.plain && ds.all fun d=>d.1.flat)=true/\All2 (fun v d=>IsV (lmX lm) d v) vs args/\K ⟨.tup (oav nx d :: ds.map fun d=>av d.1 d.2),mineM (ocel nx d.1 d.2).2,vs.flatMap AV.rows⟩):CallW P lm nx K f vs:=.inr (.inr (.inr (.inr (.inl ⟨args,d,ds,h,hk.1,hk.2.1,hk.2.2⟩))))
theorem CallW.g {P:Program} {lm:Nat->Option Blk} {nx:Nat} {K:Eff->Prop} {f:FuncId} {vs:List AV} {args:List Dat} {e:TypeId} {t:Ty} {l:List t.den} (h:FnG P f args e t l) (hk:All2 (fun v d=>IsV (lmX lm) d v) vs args/\K ⟨.row nx 0,[(nx,.row e t 0 true l)],vs.flatMap AV.rows⟩):CallW P lm nx K f vs:=.inr (.inr (.inr (.inr (.inr (.inl ⟨args,e,t,l,h,hk.1,hk.2⟩)))))
theorem CallW.r {P:Program} {lm:Nat->Option Blk} {nx:Nat} {K:Eff->Prop} {f:FuncId} {vs:List AV} {xs:List Cst} {e:TypeId} {t:Ty} {l l':List t.den} {ret:Bool} {k ver:Nat} {o:Bool} (h:FnR P f xs e t l l' ret) (hk:vs=.row k ver :: xs.map (fun c=>.sc c.val)/\lm k=some (.row e t ver o l)/\K ⟨if ret then .row k (ver+1) else .tup [],[(k,.row e t (if ret then ver+1 else ver) true l')],[k]⟩):CallW P lm nx K f vs:=.inr (.inr (.inr (.inr (.inr (.inr (.inl ⟨xs,e,t,l,l',ret,k,ver,o,h,hk.1,hk.2.1,hk.2.2⟩))))))
theorem CallW.c {P:Program} {lm:Nat->Option Blk} {nx:Nat} {K:Eff->Prop} {f:FuncId} {vs:List AV} {t:Ty} {l:List t.den} {zs zs':List Value} {args:List Dat} {own:Bool} {d:Dat} {k:Nat} (mn:Bool) (h:FnC P f t l zs zs' args own d) (hk:CallCW lm nx K t l zs zs' args own d mn k vs):CallW P lm nx K f (.ptr k 0 :: vs):=.inr (.inr (.inr (.inr (.inr (.inr (.inr (.inl ⟨t,l,zs,zs',args,own,d,mn,k,vs,h,rfl,hk⟩)))))))
theorem CallW.nb {P:Program} {lm:Nat->Option Blk} {nx:Nat} {K:Eff->Prop} {f:FuncId} {v:AV} {vs:List AV} {t:Ty} {l:List t.den} {zs:List Value} {args:List Dat} (h:FnN P f t l zs args) (hk:fxd v=some ⟨t,l⟩/\All2 (fun v d=>IsV (lmF lm (vs.flatMap AV.rows) false) d v) vs args/\K ⟨.ptr nx 0,(nx,.box (v :: zs.map fun z=>.sc z)) :: frzU lm (vs.flatMap AV.rows),vs.flatMap AV.rows⟩):CallW P lm nx K f (v :: vs):=.inr (.inr (.inr (.inr (.inr (.inr (.inr (.inr (.inl ⟨t,l,zs,args,v,vs,h,rfl,hk.1,hk.2.1,hk.2.2⟩))))))))
theorem CallW.q {P:Program} {lm:Nat->Option Blk} {nx:Nat} {K:Eff->Prop} {f:FuncId} {vs:List AV} {args:List Dat} {d:Dat} (h:Fn P f args false [d]) (hk:All2 (fun v d=>IsV (lmQ lm) d v) vs args/\K ⟨av d.1 d.2,[],vs.flatMap AV.rows⟩):CallW P lm nx K f vs:=.inr (.inr (.inr (.inr (.inr (.inr (.inr (.inr (.inr (.inl ⟨args,d,h,hk.1,hk.2⟩)))))))))
theorem CallW.h {P:Program} {lm:Nat->Option Blk} {nx:Nat} {K:Eff->Prop} {f:FuncId} {vs:List AV} {args:Nat->List Dat} {res:List Dat} (kc:Nat) (h:∀ b,Fn P f (args b) false res) (hk:(res.all fun d=>d.1.flat)=true/\(∀ b,AddrOf lm kc b->All2 (fun v d=>IsH lm kc b d v) vs (args b))/\K ⟨resAV res,[],kc :: vs.flatMap (rdH lm)⟩):CallW P lm nx K f vs:=.inr (.inr (.inr (.inr (.inr (.inr (.inr (.inr (.inr (.inr (.inl ⟨args,res,kc,h,hk⟩))))))))))
theorem CallW.mp {P:Program} {lm:Nat->Option Blk} {nx:Nat} {K:Eff->Prop} {f:FuncId} {vs:List AV} {args:Nat->List Dat} {res:List Dat} {g g':List ((Int × Int × Int) × Bool)} (kc:Nat) (h:FnW P f args (MapI g) (MapI g') res) (hk:(∀ b,AddrOf lm kc b->All2 (fun v d=>IsH lm kc b d v) vs (args b))/\match lm kc with
 | some (.ob xo v (.map g0))=>g0=g/\K ⟨resAV res,[(kc,.ob xo v (.map g'))],kc :: vs.flatMap (rdH lm)⟩
 | _=>False):CallW P lm nx K f vs:=.inr (.inr (.inr (.inr (.inr (.inr (.inr (.inr (.inr (.inr (.inr (.inl ⟨args,res,kc,g,g',h,hk⟩)))))))))))
theorem CallW.eb {P:Program} {lm:Nat->Option Blk} {nx:Nat} {K:Eff->Prop} {f:FuncId} {vs:List AV} {args:Nat->List Dat} {res:List Dat} {zs zs':List Value} (kc:Nat) (h:FnW P f args (BoxI zs) (BoxI zs') res) (hz:∀ z ∈ zs',z.oneCell'=true/\okv z) (hk:(∀ b,AddrOf lm kc b->All2 (fun v d=>IsH lm kc b d v) vs (args b))/\match lm kc with
 | some (.bx xo cs)=>cs=zs.map (fun z=>.sc z)/\K ⟨resAV res,[(kc,.bx xo (zs'.map fun z=>.sc z))],kc :: vs.flatMap (rdH lm)⟩
 | _=>False):CallW P lm nx K f vs:=.inr (.inr (.inr (.inr (.inr (.inr (.inr (.inr (.inr (.inr (.inr (.inr (.inl ⟨args,res,kc,zs,zs',h,hz,hk⟩))))))))))))
theorem CallW.to {P:Program} {lm:Nat->Option Blk} {nx:Nat} {K:Eff->Prop} {f:FuncId} {vs:List AV} {args:List Dat} {d:Dat} {ds:List Dat} (h:FnT P f args (d :: ds)) (hk:(ds.all fun d=>d.1.flat)=true/\All2 (fun v d=>IsV (lmX lm) d v) vs args/\K ⟨.tup (oav nx d :: ds.map fun d=>av d.1 d.2),(ocel nx d.1 d.2).2,vs.flatMap AV.rows⟩):CallW P lm nx K f vs:=.inr (.inr (.inr (.inr (.inr (.inr (.inr (.inr (.inr (.inr (.inr (.inr (.inr (.inr ⟨args,d,ds,h,hk.1,hk.2.1,hk.2.2⟩)))))))))))))
section
variable {lm:Nat->Option Blk} {kc b:Nat} {d:Dat}
@[go_sem] theorem IsH_sl {t:Ty} {l:List t.den}:IsH lm kc b d (.sl t l)=IsV (lmQ lm) d (.sl t l):=(rfl)
@[go_sem] theorem IsH_fx {v:Value} {t:Ty} {l:List t.den}:IsH lm kc b d (.fx v t l)=IsV (lmQ lm) d (.fx v t l):=(rfl)
@[go_sem] theorem IsH_row {k ver:Nat}:IsH lm kc b d (.row k ver)=IsV (lmQ lm) d (.row k ver):=(rfl)
@[go_sem] theorem IsH_sc {v:Value}:IsH lm kc b d (.sc v)=IsV (lmQ lm) d (.sc v):=(rfl)
@[go_sem] theorem IsH_agg {cs:List AV}:IsH lm kc b d (.agg cs)=IsV (lmQ lm) d (.agg cs):=(rfl)
@[go_sem] theorem IsH_ref {t:Ty} {x:t.den} {off:Nat}:IsH lm kc b d (.ref t x off)=IsV (lmQ lm) d (.ref t x off):=(rfl)
@[go_sem] theorem IsH_ex {e:Ex} {t:Ty} {x:Option t.den}:IsH lm kc b d (.ex e t x)=IsV (lmQ lm) d (.ex e t x):=(rfl)
@[go_sem] theorem IsH_ptr {k:Nat}:IsH lm kc b d (.ptr k 0)=IsRf lm kc b k d.1 d.2:=(rfl)
@[go_sem] theorem IsH_clb {f:FuncId} {ks:List Nat}:IsH lm kc b d (.clb f ks)=IsCk lm kc b d.1 d.2 f ks:=(rfl)
@[go_sem] theorem rdH_sl {t:Ty} {l:List t.den}:rdH lm (.sl t l)=[]:=(rfl)
@[go_sem] theorem rdH_fx {v:Value} {t:Ty} {l:List t.den}:rdH lm (.fx v t l)=[]:=(rfl)
@[go_sem] theorem rdH_row {k ver:Nat}:rdH lm (.row k ver)=[k]:=(rfl)
@[go_sem] theorem rdH_sc {v:Value}:rdH lm (.sc v)=[]:=(rfl)
@[go_sem] theorem rdH_agg {cs:List AV}:rdH lm (.agg cs)=(AV.agg cs).rows:=(rfl)
@[go_sem] theorem rdH_ref {t:Ty} {x:t.den} {off:Nat}:rdH lm (.ref t x off)=[]:=(rfl)
@[go_sem] theorem rdH_ex {e:Ex} {t:Ty} {x:Option t.den}:rdH lm (.ex e t x)=[]:=(rfl)
@[go_sem] theorem rdH_ptr {k:Nat}:rdH lm (.ptr k 0)=boxRows lm k:=(rfl)
@[go_sem] theorem rdH_clb {f:FuncId} {ks:List Nat}:rdH lm (.clb f ks)=ks.flatMap (boxRows lm):=(rfl)
@[go_sem] theorem IsHc_int {x:Int} {cs:List AV}:IsHc lm kc b .int x cs=Is (lmQ lm) .int x cs:=(rfl)
@[go_sem] theorem IsHc_bool {x:Bool} {cs:List AV}:IsHc lm kc b .bool x cs=Is (lmQ lm) .bool x cs:=(rfl)
@[go_sem] theorem IsHc_slice {t:Ty} {x:List t.den} {cs:List AV}:IsHc lm kc b (.slice t) x cs=Is (lmQ lm) (.slice t) x cs:=(rfl)
@[go_sem] theorem IsHc_opq {t:Ty} {x:t.den} {cs:List AV}:IsHc lm kc b (.ext .opq t) (some x) cs=(cs.length=1):=(rfl)
@[go_sem] theorem IsHc_rp {t:Ty} {y:t.den} {k:Nat}:IsHc lm kc b (.ext .ref t) (some y) [.ptr k 0]=(k ≠ kc/\(match lm k with|some (.bx _ cs)=>IsH0 lm kc b t y cs|_=>False)):=(rfl)
@[go_sem] theorem IsHc_rr {t s:Ty} {y:t.den} {z:s.den} {o:Nat}:IsHc lm kc b (.ext .ref t) (some y) [.ref s z o]=Is (lmQ lm) (.ext .ref t) (some y) [.ref s z o]:=(rfl)
@[go_sem] theorem IsHc_re {t s:Ty} {y:t.den} {e:Ex} {z:Option s.den}:IsHc lm kc b (.ext .ref t) (some y) [.ex e s z]=Is (lmQ lm) (.ext .ref t) (some y) [.ex e s z]:=(rfl)
@[go_sem] theorem IsHc_mp {m:Option Nat} {x:Unit} {cs:List AV}:IsHc lm kc b (.cst (.mp m)) x cs=IsMp lm kc b m cs:=(rfl)
@[go_sem] theorem IsHc_prod {A B:Ty} {x:A.den × B.den} {cs:List AV}:IsHc lm kc b (.prod A B) x cs=(IsHc lm kc b A x.1 (cs.take A.size)/\IsHc lm kc b B x.2 (cs.drop A.size)):=(rfl)
@[go_sem] theorem IsH0_int {x:Int} {cs:List AV}:IsH0 lm kc b .int x cs=Is (lmQ lm) .int x cs:=(rfl)
@[go_sem] theorem IsH0_bool {x:Bool} {cs:List AV}:IsH0 lm kc b .bool x cs=Is (lmQ lm) .bool x cs:=(rfl)
@[go_sem] theorem IsH0_slice {t:Ty} {x:List t.den} {cs:List AV}:IsH0 lm kc b (.slice t) x cs=Is (lmQ lm) (.slice t) x cs:=(rfl)
@[go_sem] theorem IsH0_opq {t:Ty} {x:t.den} {cs:List AV}:IsH0 lm kc b (.ext .opq t) (some x) cs=(cs.length=1):=(rfl)
@[go_sem] theorem IsH0_mp {m:Option Nat} {x:Unit} {cs:List AV}:IsH0 lm kc b (.cst (.mp m)) x cs=IsMp lm kc b m cs:=(rfl)
@[go_sem] theorem IsH0_prod {A B:Ty} {x:A.den × B.den} {cs:List AV}:IsH0 lm kc b (.prod A B) x cs=(IsH0 lm kc b A x.1 (cs.take A.size)/\IsH0 lm kc b B x.2 (cs.drop A.size)):=(rfl)
@[go_sem] theorem IsKs_ext {e:Ex} {t:Ty} {x:Option t.den} {k:Nat}:IsKs lm kc b (.ext e t) x [k]=IsRf lm kc b k (.ext e t) x:=(rfl)
@[go_sem] theorem IsKs_cst {f:Cst} {x:Unit} {k:Nat}:IsKs lm kc b (.cst f) x [k]=IsRf lm kc b k (.cst f) x:=(rfl)
@[go_sem] theorem IsKs_prod {A B:Ty} {x:A.den × B.den} {ks:List Nat}:IsKs lm kc b (.prod A B) x ks=(IsKs lm kc b A x.1 (ks.take A.size)/\IsKs lm kc b B x.2 (ks.drop A.size)):=(rfl)
end
theorem CallK.mk {P:Program} {lm:Nat->Option Blk} {K:Eff->Prop} {f:FuncId} {vs:List AV} {args:List Dat} {d:Dat} (h:Fn P f args false [d]) (hk:d.1.flat=true/\All2 (fun v d=>IsC lm d v) vs args/\K ⟨av d.1 d.2,[],vs.flatMap (rdK lm)⟩):CallKE P lm K f vs:=.inl ⟨args,d,h,hk⟩
theorem CallK.eb {P:Program} {lm:Nat->Option Blk} {K:Eff->Prop} {f:FuncId} {vs:List AV} {args:Nat->List Dat} {res:List Dat} {zs zs':List Value} (kc:Nat) (h:FnW P f args (BoxI zs) (BoxI zs') res) (hz:∀ z ∈ zs',z.oneCell'=true/\okv z) (hk:(∀ b,AddrOf lm kc b->All2 (fun v d=>IsH lm kc b d v) vs (args b))/\match lm kc with
 | some (.bx xo cs)=>cs=zs.map (fun z=>.sc z)/\K ⟨resAV res,[(kc,.bx xo (zs'.map fun z=>.sc z))],kc :: vs.flatMap (rdH lm)⟩
 | _=>False):CallKE P lm K f vs:=.inr ⟨args,res,kc,zs,zs',h,hz,hk⟩
theorem CallD.mk {P:Program} {lm:Nat->Option Blk} {K:Eff->Prop} {f:FuncId} {A:Ty} {x:A.den} {vs:List AV} {d0:Dat} {d:Dat} (h:Fn P f (d0 :: capD A x) false [d]) (hk:d.1.flat=true/\All2 (fun v d=>IsV lm d v) vs [d0]/\K ⟨av d.1 d.2,[],vs.flatMap AV.rows⟩):CallDD P lm K f A x vs:=.inl ⟨[d0],d,h,hk⟩
theorem CallD.eb {P:Program} {lm:Nat->Option Blk} {K:Eff->Prop} {f:FuncId} {A:Ty} {x:A.den} {vs:List AV} {args:Nat->List Dat} {d0:Dat} {res:List Dat} {zs zs':List Value} (kc b:Nat) (h:FnW P f args (BoxI zs) (BoxI zs') res) (hz:∀ z ∈ zs',z.oneCell'=true/\okv z) (ha:args b=d0 :: capD A x) (hk:All2 (fun v d=>IsV (lmQ lm) d v) vs [d0]/\lm kc=some (.bx (some b) (zs.map fun z=>.sc z))/\K ⟨resAV res,[(kc,.bx (some b) (zs'.map fun z=>.sc z))],kc :: vs.flatMap AV.rows⟩):CallDD P lm K f A x vs:=.inr ⟨args,[d0],res,kc,b,zs,zs',h,hz,ha,hk⟩
@[go_sem] theorem IsC_clb {lm:Nat->Option Blk} {d:Dat} {f:FuncId} {ks:List Nat}:IsC lm d (.clb f ks)=IsClo lm d.1 d.2 f ks:=(rfl)
@[go_sem] theorem IsC_sl {lm:Nat->Option Blk} {d:Dat} {t:Ty} {l:List t.den}:IsC lm d (.sl t l)=IsV lm d (.sl t l):=(rfl)
@[go_sem] theorem IsC_row {lm:Nat->Option Blk} {d:Dat} {k ver:Nat}:IsC lm d (.row k ver)=IsV lm d (.row k ver):=(rfl)
@[go_sem] theorem IsC_sc {lm:Nat->Option Blk} {d:Dat} {v:Value}:IsC lm d (.sc v)=IsV lm d (.sc v):=(rfl)
@[go_sem] theorem IsC_agg {lm:Nat->Option Blk} {d:Dat} {cs:List AV}:IsC lm d (.agg cs)=IsV lm d (.agg cs):=(rfl)
@[go_sem] theorem IsC_ref {lm:Nat->Option Blk} {d:Dat} {t:Ty} {x:t.den} {o:Nat}:IsC lm d (.ref t x o)=IsV lm d (.ref t x o):=(rfl)
@[go_sem] theorem SlcW_sl {lm:Nat->Option Blk} {K:Eff->Prop} {s t:Ty} {l:List s.den} {m:List t.den} {a b:Int}:SlcW lm K s l a b (.sl t m)=K ⟨.sl s ((l.take b.toNat).drop a.toNat),frzU lm (AV.sl t m).rows,(AV.sl t m).rows⟩:=(rfl)
theorem SlcW.keep {lm:Nat->Option Blk} {K:Eff->Prop} {s:Ty} {l:List s.den} {a b:Int} {k ver:Nat} (h:K ⟨.sl s ((l.take b.toNat).drop a.toNat),frzU lm [k],[k]⟩):SlcW lm K s l a b (.row k ver):=.inl h
theorem SlcW.cut {lm:Nat->Option Blk} {K:Eff->Prop} {s:Ty} {l:List s.den} {a b:Int} {k ver:Nat} {e:TypeId} {o:Bool} (h:a=0/\lm k=some (.row e s ver o l)/\K ⟨.row k (ver+1),[(k,.row e s (ver+1) s.flat (l.take b.toNat))],[k]⟩):SlcW lm K s l a b (.row k ver):=.inr ⟨h.1,e,o,h.2.1,h.2.2⟩
theorem QuoW.pos {K:Eff->Prop} {a b:Int} (h0:0<=a) (h1:0 < b) (h:K (.val (.sc (.int .i64 (a / b))))):QuoW K a b:=⟨_,.inl ⟨h0,h1,rfl⟩,h⟩
theorem RemW.pos {K:Eff->Prop} {a b:Int} (h0:0<=a) (h1:0 < b) (h:K (.val (.sc (.int .i64 (a % b))))):RemW K a b:=⟨_,.inl ⟨h0,h1,rfl⟩,h⟩
theorem FloW.mk {K:Eff->Prop} {op:BinOp} {x y:Nat} (r:Nat) (h:floatBits op .f64 x y=some r) (hk:K (.val (.sc (.float .f64 r)))):FloW K op x y:=⟨r,h,hk⟩
theorem FtiW.mk {K:Eff->Prop} {x:Nat} (n:Int) (h:floatToIntVal .f64 x .i64=some n) (hI:I64 n) (hk:K (.val (.sc (.int .i64 n)))):FtiW K x:=⟨n,h,hI,hk⟩
theorem fn_enter {P:Program} {T:TypeId->Option Ty} (hT:TabOK P T) (hmix:P.follows .mixedOrders=true) {f:FuncId} {fn:Func} {code:Code} {args:List Dat} {own:Bool} {res:List Dat} (hf:P.funcs[f]? = some fn) (hname:(fn.name == "runtime.NumGoroutine")=false) (hb:fn.body=some code) (n:Nat) (hn:fn.ntmps=n) (rs:List ResultVar) (hr:fn.results=rs.toArray) (hna:args.length<=n)
  (h:(∀ d ∈ args,Wf d.1 d.2)->AC P T n code (KR T rs own res) ⟨argTm 0 args,[]⟩):Fn P f args own res:=by
 subst hn
 refine fn_intro hT hmix hf hname hb hna fun hwf=>?_
 have:=h hwf
 have e:(KR T rs own res)=fun e σ=>match e with
   | .normal|.ret=>RetOK T σ own fn.results.toList res
   | _=>False:=by
  have hrl:fn.results.toList=rs:=by rw [hr]
  rw [hrl]; funext e σ; cases e<;>rfl
 rw [e] at this
 exact this
end
theorem look_hit {α:Type} (k:Nat) (v:α) (l:List (Nat × α)):look ((k,v) :: l) k=some v:=look_self k v l
theorem look_miss {α:Type} {k d:Nat} (v:α) (l:List (Nat × α)) (h:(d == k)=false):look ((k,v) :: l) d=look l d:=look_ne v l (by simpa using h)
attribute [go_sem] reduceIte reduceCtorEq Nat.reduceEqDiff Nat.reduceLT Nat.reduceLeDiff Nat.reduceAdd Nat.reduceBEq Nat.reduceMul Int.reduceToNat Int.reduceLE Int.reduceLT Int.reduceEq Int.reduceNeg
attribute [go_sem] mk_bs emp_bs ofI_bs List.map_cons List.map_nil aIdxS aSlcS aConvS aConvB isU8 byt_bs bs_size bs_app bs_ext bs_beq queE aLenQ aIdxQ aLoadQ aSlcQ aAppQ Nat.zero_add List.drop_zero IsMp IsPt IsRf IsCk AddrOf resAV oblk Blk.ob.injEq ObD.map.injEq true_implies forall_eq' mapE aLook aUpd aNewMap IsClo exV aNilChk evPtrs aMakeClo aIndexArr aBuildArr aMakeMap aCall2 hasClb CapOK capD rdK boxRows boxRows1 ptrRows Ty.plain Ex.zv
attribute [go_sem] nrow lmQ aStoreMine fxd cEff CallCW AV.fx.injEq RetT lmX Blk.toOd Blk.toMine mineM xEff IsM mcel mrow MkV Option.map_some Option.map_none aStep aMove aPick aBox aAlloc aLoad aStoreBox aStoreRow aFieldAddr aField aBin0 aBinW aBinX isAM aNil Cst.val aUn aConv aExtract aBuild fillA aLen elemPtr aIndexAddr Blk.fz frzU ocel oav apartR callEff evs lmF aCall aBuildSlice aAppend aMakeSlice evo aSlice aMin aMax
 ev kst look_hit look_miss look_nil getC cel av cellsOf AV.ok AV.rows AV.data Blk.data gslot St.app Eff.val Eff.te Eff.skip Ty.isAgg Ty.size Ty.flat Ty.zero Ty.zc zcl argTm RetOK aRes IsV Is IsS OwnA OwnC OwnL ownV cellRows All2 LeC LeA LeV wkT wkB wkM ren isSl idx WkL rdC rdI rdB rdT rdU rdX rdV rdL rdS lget_same decide_true decide_false Int.toNat_natCast
def ni (l:List Int) (i:Nat):Int:=nth (t:=.int) l i
@[go_sem] theorem nth_int (l:List Int) (i:Nat):@nth .int l i=ni l i:=(rfl)
@[go_sem] theorem ex_bx {α β:Type} (a:α) (b:β):(∃ x cs,a=x/\b=cs)=True:=by simp
attribute [go_sem] exists_eq_left exists_eq_left' exists_eq' exists_eq and_imp beq_self_eq_true Int.toNat_zero List.length_append List.nodup_nil List.nodup_cons List.not_mem_nil not_false_eq_true List.mem_cons Option.getD_none Option.getD_some implies_true false_implies or_false or_true false_or true_or forall_eq List.cons.injEq AV.sc.injEq AV.sl.injEq Blk.bx.injEq Value.int.injEq Value.bool.injEq Sigma.mk.injEq heq_eq_eq true_and and_true and_self false_and and_false if_true if_false List.length_cons List.length_nil List.take_succ_cons List.take_zero List.drop_succ_cons List.drop_zero List.cons_append List.nil_append List.getD_cons_zero List.getD_cons_succ List.map_cons List.map_nil List.all_cons List.all_nil List.flatMap_cons List.flatMap_nil List.toList_toArray forall_const Bool.not_true Bool.not_false Bool.false_eq_true Bool.and_true Bool.true_and Bool.or_false Bool.false_or Bool.or_true Bool.true_or Bool.and_false Bool.false_and List.length_replicate List.length_set ne_eq List.headD_cons Option.bind_some Option.some.injEq Option.isSome_some List.getElem?_cons_zero List.getElem?_cons_succ List.getElem?_toArray Nat.zero_add Option.none_or Option.some_or
theorem AI {p q:Prop} (g:q) (h:p:=by first|omega|(constructor<;>omega)|kernel_rfl):p/\q:=⟨h,g⟩
theorem WK {σ τ:St} (h:WkL [] σ τ:=by (try simp (maxSteps:=9^9) only [go_sem]); try (and_intros<;>first|rfl|omega|exact ⟨_,rfl⟩)):Wk σ τ:=Wk.mk [] h
theorem cw {P:Program} {lm:Nat -> Option Blk} {nx:Nat} {K:Eff -> Prop} {f:FuncId} {vs:List AV} {args:List Dat} {own:Bool} {res:List Dat} (h:Fn P f args own res) (hk:All2 (fun v d=>IsV (lmF lm (vs.flatMap AV.rows) (apartR own res)) d v) vs args /\ K (callEff lm nx (vs.flatMap AV.rows) own res)):CallW P lm nx K f vs:=CallW.mk h hk
end Go.Proofs.YtpdiggaapdhffaaGreat.DW

namespace Go.Proofs.YtpdiggaapdhffaaGreat
open Go.RowKit
abbrev DIntS:=List Int
abbrev RIntS:Rp DIntS:=Rp.slice Rp.int (by decide)
abbrev DBigInt:=Bool × DIntS
abbrev RBigInt:Rp DBigInt:=Rp.prod Rp.bool RIntS
abbrev DRat:=DBigInt × DIntS
abbrev RRat:Rp DRat:=Rp.prod RBigInt RIntS
abbrev DPoint:=DRat × DRat
abbrev DStep:=Int × DPoint
abbrev DStepS:=List DStep
abbrev DPlacement:=Int × DPoint
theorem list1 {α:Type} {l:List α} (h:l.length=1):∃ c0,l=[c0]:=by
 match l,h with
 | [c0],_=>exact ⟨c0,rfl⟩
theorem list2 {α:Type} {l:List α} (h:l.length=2):∃ c0 c1,l=[c0,c1]:=by
 match l,h with
 | [c0,c1],_=>exact ⟨c0,c1,rfl⟩
theorem list3 {α:Type} {l:List α} (h:l.length=3):∃ c0 c1 c2,l=[c0,c1,c2]:=by
 match l,h with
 | [c0,c1,c2],_=>exact ⟨c0,c1,c2,rfl⟩
theorem list7 {α:Type} {l:List α} (h:l.length=7):∃ c0 c1 c2 c3 c4 c5 c6,l=[c0,c1,c2,c3,c4,c5,c6]:=by
 match l,h with
 | [c0,c1,c2,c3,c4,c5,c6],_=>exact ⟨c0,c1,c2,c3,c4,c5,c6,rfl⟩
def tBigInt (x:DBigInt):Nat:=x.2.length
def tRat (x:DRat):Nat:=tBigInt x.1+x.2.length
def mkIntS (l:DIntS) (k:Int):DIntS:=(List.range l.length).map fun i=>k+(i:Nat)
def cnBigInt (x:DBigInt):Nat:=x.2.length
def mkBigInt (x:DBigInt) (k:Int):DBigInt:=(x.1,mkIntS x.2 k)
def ecBigInt (x:DBigInt):Nat:=1+x.2.length
def emBigInt (x:DBigInt) (k:Int):DBigInt:=((k % 3 == 0),mkIntS x.2 (k+1))
def cnRat (x:DRat):Nat:=cnBigInt x.1+x.2.length
def mkRat (x:DRat) (k:Int):DRat:=(mkBigInt x.1 k,mkIntS x.2 (k+cnBigInt x.1))
def ecRat (x:DRat):Nat:=ecBigInt x.1+x.2.length
def emRat (x:DRat) (k:Int):DRat:=(emBigInt x.1 k,mkIntS x.2 (k+ecBigInt x.1))
def cnPoint (x:DPoint):Nat:=cnRat x.1+cnRat x.2
def mkPoint (x:DPoint) (k:Int):DPoint:=(mkRat x.1 k,mkRat x.2 (k+cnRat x.1))
def ecPoint (x:DPoint):Nat:=ecRat x.1+ecRat x.2
def emPoint (x:DPoint) (k:Int):DPoint:=(emRat x.1 k,emRat x.2 (k+ecRat x.1))
def cnPlacement (x:DPlacement):Nat:=cnPoint x.2
def mkPlacement (x:DPlacement) (k:Int):DPlacement:=(x.1,mkPoint x.2 k)
def ecStep (x:DStep):Nat:=1+ecPoint x.2
def emStep (x:DStep) (k:Int):DStep:=(k,emPoint x.2 (k+1))
def mkStepS:DStepS->Int->DStepS
 | [],_=>[]
 | x :: l,k=>emStep x k :: mkStepS l (k+ecStep x)
end Go.Proofs.YtpdiggaapdhffaaGreat

namespace Go.Proofs.YtpdiggaapdhffaaGreat.DW
open Go.RowKit
abbrev tInts:Ty:=.slice .int
abbrev tBig:Ty:=.prod .bool tInts
abbrev tRat:Ty:=.prod tBig tInts
abbrev tVec:Ty:=.prod .int .int
abbrev tVecSS:Ty:=.slice (.slice tVec)
abbrev tScene:Ty:=.prod tVec (.prod tVec (.prod (.slice tVec) (.prod tVecSS (.slice tVec))))
abbrev tBox:Ty:=.prod tVec tVec
abbrev tCell:Ty:=.prod tRat (.prod tRat (.prod tRat (.prod tRat (.prod tRat tRat))))
abbrev tWall:Ty:=.prod tRat (.prod tRat tRat)
abbrev tSlice:Ty:=.prod .int (.prod .bool (.prod tBox (.prod tVecSS (.prod (.slice tCell) (.prod (.slice tWall) (.prod (.slice tVec) tInts))))))
abbrev tRoad:Ty:=.prod tScene (.prod (.slice tSlice) (.prod tInts (.slice tInts)))
def tyOf:TypeId->Option Ty
 | 3=>some .int
 | 4=>some .bool
 | 9=>some .str
 | 29=>some tInts
 | 5=>some .u8
 | 121=>some tBig
 | 123=>some tRat
 | 36=>some tVec
 | 37=>some (.slice tVec)
 | 131=>some tBig
 | 133=>some tRat
 | 23=>some tVec
 | 24=>some (.slice tVec)
 | 30=>some (.slice tInts)
 | 38=>some tVecSS
 | 25=>some tVecSS
 | 40=>some tScene
 | 27=>some tScene
 | 60=>some tBox
 | 125=>some tCell
 | 135=>some tCell
 | 127=>some tWall
 | 138=>some tWall
 | 129=>some tVec
 | 146=>some tVec
 | 65=>some tSlice
 | 87=>some tSlice
 | 43=>some tRoad
 | 32=>some tRoad
 | 82=>some tBox
 | 61=>some (.slice tCell)
 | 83=>some (.slice tCell)
 | 62=>some (.slice tWall)
 | 84=>some (.slice tWall)
 | 63=>some (.slice tVec)
 | 85=>some (.slice tVec)
 | 41=>some (.slice tSlice)
 | 28=>some (.slice tSlice)
 | _=>none
theorem mixes:Tryz.prog.follows .mixedOrders=true:=by kernel_rfl
theorem tabOK:TabOK Tryz.prog tyOf:=by
 intro ty t h
 unfold tyOf at h
 split at h
 all_goals first|cases h; done|(injection h with h; subst h; exact tyOK (by kernel_rfl) (by kernel_rfl))
attribute [go_sem] tyOf
theorem tame:¬ wild tyOf:=fun h=>h 4 rfl
@[go_sem] theorem aBin_tame {P:Program} {lt:Nat->Option AV} {K:Eff->Prop} {op:BinOp} {ty:TypeId} {x y:Operand}:aBin P tyOf lt K op ty x y=aBin0 P lt K op ty x y:=if_neg tame
attribute [go_sem] Tryz.underlying3
attribute [go_sem] Tryz.underlying4
attribute [go_sem] Tryz.underlying9
attribute [go_sem] Tryz.underlying5
attribute [go_sem] Tryz.underlying29
attribute [go_sem] Tryz.underlying121
attribute [go_sem] Tryz.underlying123
attribute [go_sem] Tryz.underlying36
attribute [go_sem] Tryz.underlying37
attribute [go_sem] Tryz.underlying131
attribute [go_sem] Tryz.underlying133
attribute [go_sem] Tryz.underlying23
attribute [go_sem] Tryz.underlying24
attribute [go_sem] Tryz.underlying38
attribute [go_sem] Tryz.underlying25
attribute [go_sem] Tryz.underlying40
attribute [go_sem] Tryz.underlying27
attribute [go_sem] Tryz.underlying60
attribute [go_sem] Tryz.underlying125
attribute [go_sem] Tryz.underlying135
attribute [go_sem] Tryz.underlying127
attribute [go_sem] Tryz.underlying138
attribute [go_sem] Tryz.underlying129
attribute [go_sem] Tryz.underlying146
attribute [go_sem] Tryz.underlying65
attribute [go_sem] Tryz.underlying87
attribute [go_sem] Tryz.underlying43
attribute [go_sem] Tryz.underlying32
attribute [go_sem] Tryz.underlying82
attribute [go_sem] Tryz.underlying61
attribute [go_sem] Tryz.underlying83
attribute [go_sem] Tryz.underlying62
attribute [go_sem] Tryz.underlying84
attribute [go_sem] Tryz.underlying63
attribute [go_sem] Tryz.underlying85
attribute [go_sem] Tryz.underlying41
attribute [go_sem] Tryz.underlying28
@[go_sem] theorem bts_bool:bts Tryz.prog 4=some 1:=by kernel_rfl
@[go_sem] theorem bts_Vec:bts Tryz.prog 36=some 16:=by kernel_rfl
@[go_sem] theorem bts_int:bts Tryz.prog 3=some 8:=by kernel_rfl
@[go_sem] theorem bts_Rat:bts Tryz.prog 123=some 56:=by kernel_rfl
theorem fe {f:FuncId} {fn:Func} {code:Code} {args:List Dat} {own:Bool} {res:List Dat} {n:Nat} {rs:List ResultVar} (hf:Tryz.prog.funcs[f]? = some fn) (hn:fn.ntmps=n) (hr:fn.results=rs.toArray) (h:(∀ d ∈ args,Wf d.1 d.2)->AC Tryz.prog tyOf n code (KR tyOf rs own res) ⟨argTm 0 args,[]⟩) (hname:(fn.name == "runtime.NumGoroutine")=false:=by rfl) (hb:fn.body=some code:=by rfl) (hna:args.length <= n:=by simp):Fn Tryz.prog f args own res:=fn_enter tabOK mixes hf hname hb n hn rs hr hna h
end Go.Proofs.YtpdiggaapdhffaaGreat.DW

namespace Go.Proofs.YtpdiggaapdhffaaGreat.DW
open Go.RowKit
def natL (n:Nat):List Int:=if h:n=0 then [] else ((n % 1000000000:Nat):Int) :: natL (n / 1000000000)
decreasing_by omega
theorem natL_zero:natL 0=[]:=by rw [natL]; rfl
theorem natL_pos {n:Nat} (h:0 < n):natL n=((n % 1000000000:Nat):Int) :: natL (n / 1000000000):=by rw [natL,dif_neg (by omega)]
def ixf {t:Ty} (p:t.den->Bool) (l:List t.den):Int:=match l.findIdx? p with|some i=>i|none=>-1
theorem ixf_at {t:Ty} {p:t.den->Bool} {l:List t.den} {i:Nat} (hi:i < l.length) (h:p (nth l i)=true) (hb:∀ j < i,p (nth l j)=false):ixf p l=i:=by
 have:l.findIdx? p=some i:=by
  rw [List.findIdx?_eq_some_iff_getElem]
  refine ⟨hi,by rw [<-nth_lt hi]; exact h,fun j hj=>?_⟩
  rw [<-nth_lt (by omega)]; simp [hb j hj]
 rw [ixf,this]
theorem ixf_none {t:Ty} {p:t.den->Bool} {l:List t.den} (hb:∀ j < l.length,p (nth l j)=false):ixf p l=-1:=by
 have:l.findIdx? p=none:=by
  rw [List.findIdx?_eq_none_iff]
  intro x hx
  obtain ⟨j,hj,rfl⟩:=List.getElem_of_mem hx
  rw [<-nth_lt hj]; exact hb j hj
 rw [ixf,this]
theorem ixf_any {t:Ty} {p:t.den->Bool} {l:List t.den}:decide (0<=ixf p l)=l.any p:=by
 unfold ixf
 cases h:l.findIdx? p with
 | none =>
  rw [List.findIdx?_eq_none_iff] at h
  have:l.any p=false:=by rw [List.any_eq_false]; intro x hx; simp [h x hx]
  rw [this]; rfl
 | some i =>
  rw [List.findIdx?_eq_some_iff_getElem] at h
  obtain ⟨hi,hp,_⟩:=h
  have:l.any p=true:=List.any_eq_true.2 ⟨_,List.getElem_mem hi,hp⟩
  rw [this]; simp
theorem l01In_fn (n a b:Int):Fn Tryz.prog 61 [⟨.int,n⟩,⟨.int,a⟩,⟨.int,b⟩] false [⟨.bool,decide (a<=n/\n<=b)⟩]:=by
 refine fe Tryz.func61 Tryz.ntmps61 Tryz.results61 fun hwf=>?_
 try simp (maxSteps:=9^9) only[go_sem]
 refine GuardW_dec (fun h=>?_) (fun h=>?_)
 ·try simp (maxSteps:=9^9) only[go_sem]
  simp [h]
 ·try simp (maxSteps:=9^9) only[go_sem]
  simp [h]
theorem within_fn (n a b:Int):Fn Tryz.prog 72 [⟨.int,n⟩,⟨.int,a⟩,⟨.int,b⟩] false [⟨.bool,decide (a<=n/\n<=b)⟩]:=by
 refine fe Tryz.func72 Tryz.ntmps72 Tryz.results72 fun hwf=>?_
 try simp (maxSteps:=9^9) only[go_sem]
 refine GuardW_dec (fun h=>?_) (fun h=>?_)
 ·try simp (maxSteps:=9^9) only[go_sem]
  simp [h]
 ·try simp (maxSteps:=9^9) only[go_sem]
  simp [h]
noncomputable def bdec (p:Prop):Bool:=@decide p (Classical.propDecidable p)
theorem bdec_t {p:Prop} (h:p):bdec p=true:=@decide_eq_true _ (Classical.propDecidable p) h
theorem bdec_f {p:Prop} (h:¬ p):bdec p=false:=@decide_eq_false _ (Classical.propDecidable p) h
def pw (k:Nat):Nat:=1000000000 ^ k
theorem pw_zero:pw 0=1:=rfl
theorem pw_succ (k:Nat):pw (k+1)=1000000000 * pw k:=by rw [pw,Nat.pow_succ,Nat.mul_comm]; rfl
theorem pw_pos (k:Nat):0 < pw k:=Nat.pow_pos (by decide)
def dg (n i:Nat):Nat:=n / pw i % 1000000000
theorem dg_zero (n:Nat):dg n 0=n % 1000000000:=by rw [dg,pw_zero,Nat.div_one]
theorem dg_succ (n i:Nat):dg n (i+1)=dg (n / 1000000000) i:=by rw [dg,dg,pw_succ,Nat.div_div_eq_div_mul]
theorem dg_of_lt {n i:Nat} (h:n < pw i):dg n i=0:=by rw [dg,Nat.div_eq_of_lt h]
def nl (n:Nat):Nat:=(natL n).length
theorem natL_len_nl (n:Nat):(natL n).length=nl n:=rfl
theorem ni_cons_zero (d:Int) (l:List Int):ni (d :: l) 0=d:=rfl
theorem ni_cons_succ (d:Int) (l:List Int) (i:Nat):ni (d :: l) (i+1)=ni l i:=rfl
theorem ni_nil (i:Nat):ni [] i=0:=rfl
theorem ni_natL:∀ (i n:Nat),ni (natL n) i=(dg n i:Nat):=by
 intro i
 induction i with
 | zero =>
  intro n
  by_cases h:n=0
  ·subst h; rw [natL_zero]; rfl
  ·rw [natL_pos (by omega),ni_cons_zero,dg_zero]
 | succ i ih =>
  intro n
  by_cases h:n=0
  ·subst h; rw [natL_zero,ni_nil,dg_of_lt (pw_pos _)]; rfl
  ·rw [natL_pos (by omega),ni_cons_succ,ih,dg_succ]
def val:List Int->Nat
 | []=>0
 | d :: l=>d.toNat+1000000000 * val l
end Go.Proofs.YtpdiggaapdhffaaGreat.DW

namespace Go.Proofs.YtpdiggaapdhffaaGreat.DW
open Go.RowKit
attribute [go_sem] ni_natL natL_len_nl
end Go.Proofs.YtpdiggaapdhffaaGreat.DW

namespace Go.Proofs.YtpdiggaapdhffaaGreat.DW
open Go.RowKit
theorem toNat_addc (i k:Nat):((i:Int)+(k:Int)).toNat=i+k:=by omega
attribute [go_sem] toNat_addc ne_eq
end Go.Proofs.YtpdiggaapdhffaaGreat.DW

namespace Go.Proofs.YtpdiggaapdhffaaGreat.DW
open Ieee
end Go.Proofs.YtpdiggaapdhffaaGreat.DW

namespace Go.Proofs.YtpdiggaapdhffaaGreat.DW
open Ieee
theorem la {R V z:Nat} (h2:R * 2 ^ 60<=V * 2 ^ 60+z) (h3:V * 2 ^ 60<=R * 2 ^ 60+z) (hz:z<=2 ^ 50 * V):R<=2 * V/\V<=2 * R:=by omega
theorem lb {u g V R:Nat} (e1:u<=V) (e2:u=g * 2 ^ 74) (hb:V<=2 * R):g<=R:=by omega
end Go.Proofs.YtpdiggaapdhffaaGreat.DW

namespace Go.Proofs.YtpdiggaapdhffaaGreat.DW
open Go.RowKit
end Go.Proofs.YtpdiggaapdhffaaGreat.DW

namespace Go.Proofs.YtpdiggaapdhffaaGreat.DW
open Go.RowKit
abbrev DB:Type:=Bool × List Int
abbrev DR:Type:=DB × List Int
def bigD (z:Int):DB:=(decide (z < 0),natL z.natAbs)
def bZ:DB:=(false,[])
theorem bigD_nat (n:Nat):bigD n=(false,natL n):=by
 rw [bigD,Int.natAbs_natCast,decide_eq_false (by omega)]
def ratD (q:Rat):DR:=(bigD q.num,natL q.den)
def rZ:DR:=(bZ,[])
def oD:Option Rat->DR
 | none=>rZ
 | some q=>ratD q
attribute [go_sem] bigD
@[go_sem] theorem oD_s (q:Rat):oD (some q)=ratD q:=(rfl)
@[go_sem] theorem oD_n:oD none=rZ:=(rfl)
attribute [go_sem] ratD rZ bZ
end Go.Proofs.YtpdiggaapdhffaaGreat.DW

namespace Go.Proofs.YtpdiggaapdhffaaGreat.DW
open Go.RowKit
attribute [go_sem] Option.isSome_none bigD_nat
end Go.Proofs.YtpdiggaapdhffaaGreat.DW

namespace Go.Proofs.YtpdiggaapdhffaaGreat.DW
open Go.RowKit
attribute [go_sem] Prod.eta
theorem isHeading_fn (n:Int):Fn Tryz.prog 112 [⟨.int,n⟩] false [⟨.bool,decide (0<=n/\n<=3)⟩]:=by
 refine fe Tryz.func112 Tryz.ntmps112 Tryz.results112 fun hwf=>?_
 try simp (maxSteps:=9^9) only[go_sem]
 repeat refine AI ?_
 refine cw (within_fn n 0 3) ?_
 try simp (maxSteps:=9^9) only[go_sem]
abbrev DV:Type:=Int × Int
def inB (k:Int) (v:DV):Bool:=decide (-k<=v.1/\v.1<=k) && decide (-k<=v.2/\v.2<=k)
def okV (v:DV):Bool:=inB 1000 v
theorem okV_b {v:DV} (h:okV v=true):-1000<=v.1/\v.1<=1000/\-1000<=v.2/\v.2<=1000:=by
 unfold okV inB at h
 rw [Bool.and_eq_true,decide_eq_true_iff,decide_eq_true_iff] at h
 omega
theorem isVec_fn (v:DV):Fn Tryz.prog 111 [⟨tVec,v⟩] false [⟨.bool,okV v⟩]:=by
 have c1:=within_fn v.1 (-1000) 1000
 have c2:=within_fn v.2 (-1000) 1000
 unfold okV inB
 cases h:decide (-1000<=v.1/\v.1<=1000)<;>rw [h] at c1
 ·refine fe Tryz.func111 Tryz.ntmps111 Tryz.results111 fun hwf=>?_
  try simp (maxSteps:=9^9) only[go_sem]
  repeat refine AI ?_
  refine cw c1 ?_
  try simp (maxSteps:=9^9) only[go_sem]
 ·refine fe Tryz.func111 Tryz.ntmps111 Tryz.results111 fun hwf=>?_
  try simp (maxSteps:=9^9) only[go_sem]
  repeat refine AI ?_
  refine cw c1 ?_
  try simp (maxSteps:=9^9) only[go_sem]
  repeat refine AI ?_
  refine cw c2 ?_
  try simp (maxSteps:=9^9) only[go_sem]
theorem IsValidVec_fn (v:DV):Fn Tryz.prog 84 [⟨tVec,v⟩] false [⟨.bool,okV v⟩]:=by
 have c1:=l01In_fn v.1 (-1000) 1000
 have c2:=l01In_fn v.2 (-1000) 1000
 unfold okV inB
 cases h:decide (-1000<=v.1/\v.1<=1000)<;>rw [h] at c1
 ·refine fe Tryz.func84 Tryz.ntmps84 Tryz.results84 fun hwf=>?_
  try simp (maxSteps:=9^9) only[go_sem]
  repeat refine AI ?_
  refine cw c1 ?_
  try simp (maxSteps:=9^9) only[go_sem]
 ·refine fe Tryz.func84 Tryz.ntmps84 Tryz.results84 fun hwf=>?_
  try simp (maxSteps:=9^9) only[go_sem]
  repeat refine AI ?_
  refine cw c1 ?_
  try simp (maxSteps:=9^9) only[go_sem]
  repeat refine AI ?_
  refine cw c2 ?_
  try simp (maxSteps:=9^9) only[go_sem]
theorem mul_bd {x y:Int} (h1:-2000<=x) (h2:x<=2000) (h3:-2000<=y) (h4:y<=2000):-4000000<=x * y/\x * y<=4000000:=by
 have e1:0<=(2000 - x) * (2000 - y):=Int.mul_nonneg (by omega) (by omega)
 have e2:0<=(2000+x) * (2000+y):=Int.mul_nonneg (by omega) (by omega)
 have e3:0<=(2000 - x) * (2000+y):=Int.mul_nonneg (by omega) (by omega)
 have e4:0<=(2000+x) * (2000 - y):=Int.mul_nonneg (by omega) (by omega)
 simp only [Int.sub_mul,Int.add_mul,Int.mul_sub,Int.mul_add] at e1 e2 e3 e4
 omega
def trn (a b c:DV):Int:=(b.1 - a.1) * (c.2 - a.2) - (b.2 - a.2) * (c.1 - a.1)
theorem turn_fn (a b c:DV) (ha:okV a=true) (hb:okV b=true) (hc:okV c=true):Fn Tryz.prog 96 [⟨tVec,a⟩,⟨tVec,b⟩,⟨tVec,c⟩] false [⟨.int,trn a b c⟩]:=by
 have ha:=okV_b ha; have hb:=okV_b hb; have hc:=okV_b hc
 have m1:=mul_bd (x:=b.1 - a.1) (y:=c.2 - a.2) (by omega) (by omega) (by omega) (by omega)
 have m2:=mul_bd (x:=b.2 - a.2) (y:=c.1 - a.1) (by omega) (by omega) (by omega) (by omega)
 unfold trn
 refine fe Tryz.func96 Tryz.ntmps96 Tryz.results96 fun hwf=>?_
 try simp (maxSteps:=9^9) only[go_sem]
 all_goals repeat refine AI ?_
 all_goals first|kernel_rfl|omega|rfl
def trq (a b c:DV):Int:=if okV a && okV b && okV c then trn a b c else 0
theorem Turn_fn (a b c:DV):Fn Tryz.prog 85 [⟨tVec,a⟩,⟨tVec,b⟩,⟨tVec,c⟩] false [⟨.int,trq a b c⟩]:=by
 have c1:=IsValidVec_fn a
 have c2:=IsValidVec_fn b
 have c3:=IsValidVec_fn c
 unfold trq
 cases ha:okV a<;>rw [ha] at c1
 ·refine fe Tryz.func85 Tryz.ntmps85 Tryz.results85 fun hwf=>?_
  try simp (maxSteps:=9^9) only[go_sem]
  repeat refine AI ?_
  refine cw c1 ?_
  try simp (maxSteps:=9^9) only[go_sem]
 ·cases hb:okV b<;>rw [hb] at c2
  ·refine fe Tryz.func85 Tryz.ntmps85 Tryz.results85 fun hwf=>?_
   try simp (maxSteps:=9^9) only[go_sem]
   repeat refine AI ?_
   refine cw c1 ?_
   try simp (maxSteps:=9^9) only[go_sem]
   repeat refine AI ?_
   refine cw c2 ?_
   try simp (maxSteps:=9^9) only[go_sem]
  ·cases hc:okV c<;>rw [hc] at c3
   ·refine fe Tryz.func85 Tryz.ntmps85 Tryz.results85 fun hwf=>?_
    try simp (maxSteps:=9^9) only[go_sem]
    repeat refine AI ?_
    refine cw c1 ?_
    try simp (maxSteps:=9^9) only[go_sem]
    repeat refine AI ?_
    refine cw c2 ?_
    try simp (maxSteps:=9^9) only[go_sem]
    repeat refine AI ?_
    refine cw c3 ?_
    try simp (maxSteps:=9^9) only[go_sem]
   ·have ha:=okV_b ha; have hb:=okV_b hb; have hc:=okV_b hc
    have m1:=mul_bd (x:=b.1 - a.1) (y:=c.2 - a.2) (by omega) (by omega) (by omega) (by omega)
    have m2:=mul_bd (x:=b.2 - a.2) (y:=c.1 - a.1) (by omega) (by omega) (by omega) (by omega)
    unfold trn
    refine fe Tryz.func85 Tryz.ntmps85 Tryz.results85 fun hwf=>?_
    try simp (maxSteps:=9^9) only[go_sem]
    repeat refine AI ?_
    refine cw c1 ?_
    try simp (maxSteps:=9^9) only[go_sem]
    repeat refine AI ?_
    refine cw c2 ?_
    try simp (maxSteps:=9^9) only[go_sem]
    repeat refine AI ?_
    refine cw c3 ?_
    try simp (maxSteps:=9^9) only[go_sem]
    all_goals repeat refine AI ?_
    all_goals first|kernel_rfl|omega|rfl
theorem indexFunc_vec_fn (F:FuncId) (p:DV->Bool) (hF:∀ x:DV,Fn Tryz.prog F [⟨tVec,x⟩] false [⟨.bool,p x⟩]) (l:List DV):Fn Tryz.prog 94 [⟨.slice tVec,l⟩,⟨.cst (.fn F),()⟩] false [⟨.int,ixf (t:=tVec) p l⟩]:=by
 refine fe Tryz.func94 Tryz.ntmps94 Tryz.results94 fun hwf=>?_
 have hl:l.length<=9223372036854775807:=(hwf ⟨.slice tVec,l⟩ (by simp)).1
 try simp (maxSteps:=9^9) only[go_sem]
 refine LoopG.intro _ _ _ (fun i:Nat=>⟨[(0,.sl tVec l),(1,.sc (.func (.func F) #[] #[])),(7,.sc (.int .i64 l.length)),(8,.sc (.int .i64 i))],[]⟩) (fun i=>∀ j < i,j < l.length->p (nth (t:=tVec) l j)=false) (fun i=>l.length - i) 0 ?_ (fun j h=>by simp at h) ?_
 ·exact WK
 ·rintro i h2
  try simp (maxSteps:=9^9) only[go_sem]
  refine CondW_dec (fun h3=>?_) (fun h3=>?_)
  ·try simp (maxSteps:=9^9) only[go_sem]
   repeat refine AI ?_
   repeat refine AI ?_
   refine cw (hF (nth (t:=tVec) l i)) ?_
   try simp (maxSteps:=9^9) only[go_sem]
   refine CondW_b (fun h4=>?_) (fun h4=>?_)
   ·try simp (maxSteps:=9^9) only[go_sem]
    exact (ixf_at (by omega) h4 (fun j hj=>h2 j hj (by omega))).symm
   ·try simp (maxSteps:=9^9) only[go_sem]
    repeat refine AI ?_
    refine LoopK.mk (i+1) ?_ (fun j hj hl=>?_) (by omega)
    ·exact WK
    ·by_cases hj2:j < i
     ·exact h2 j hj2 hl
     ·rw [show j=i by omega]; exact h4
  ·try simp (maxSteps:=9^9) only[go_sem]
   exact (ixf_none fun j hj=>h2 j (by omega) hj).symm
theorem containsFunc_vec_fn (F:FuncId) (p:DV->Bool) (hF:∀ x:DV,Fn Tryz.prog F [⟨tVec,x⟩] false [⟨.bool,p x⟩]) (l:List DV):Fn Tryz.prog 70 [⟨.slice tVec,l⟩,⟨.cst (.fn F),()⟩] false [⟨.bool,l.any p⟩]:=by
 refine fe Tryz.func70 Tryz.ntmps70 Tryz.results70 fun hwf=>?_
 try simp (maxSteps:=9^9) only[go_sem]
 repeat refine AI ?_
 refine cw (indexFunc_vec_fn F p hF l) ?_
 try simp (maxSteps:=9^9) only[go_sem]
 exact ixf_any
theorem areVecsC_fn (v:DV):Fn Tryz.prog 110 [⟨tVec,v⟩] false [⟨.bool,!okV v⟩]:=by
 refine fe Tryz.func110 Tryz.ntmps110 Tryz.results110 fun hwf=>?_
 try simp (maxSteps:=9^9) only[go_sem]
 repeat refine AI ?_
 refine cw (isVec_fn v) ?_
 try simp (maxSteps:=9^9) only[go_sem]
theorem areVecs_fn (l:List DV):Fn Tryz.prog 95 [⟨.slice tVec,l⟩] false [⟨.bool,!(l.any fun v=>!okV v)⟩]:=by
 refine fe Tryz.func95 Tryz.ntmps95 Tryz.results95 fun hwf=>?_
 try simp (maxSteps:=9^9) only[go_sem]
 repeat refine AI ?_
 refine cw (containsFunc_vec_fn _ _ areVecsC_fn l) ?_
 try simp (maxSteps:=9^9) only[go_sem]
def nxt (n i:Nat):Int:=((i:Int)+1) % (n:Int)
def cornOK (l:List DV) (i k:Nat):Prop:=¬ (k:Int)=i->¬ (k:Int)=nxt l.length i->0 < trn (nth (t:=tVec) l i) (nth (t:=tVec) l (nxt l.length i).toNat) (nth (t:=tVec) l k)
def polyP (l:List DV):Prop:=(3<=(l.length:Int)/\(l.length:Int)<=16)/\(∀ v ∈ l,okV v=true)/\∀ i k,i < l.length->k < l.length->cornOK l i k
noncomputable def polyB (l:List DV):Bool:=@decide (polyP l) (Classical.propDecidable _)
theorem polyB_t {l:List DV} (h:polyP l):polyB l=true:=@decide_eq_true _ (Classical.propDecidable _) h
theorem polyB_f {l:List DV} (h:¬ polyP l):polyB l=false:=@decide_eq_false _ (Classical.propDecidable _) h
theorem any_okV {l:List DV} (h:(l.any fun v=>!okV v)=false):∀ v ∈ l,okV v=true:=by
 intro v hv
 rw [List.any_eq_false] at h
 simpa using h v hv
theorem nxt_rng {n i:Nat} (h:0 < n):0<=nxt n i/\nxt n i < n:=⟨Int.emod_nonneg _ (by omega),Int.emod_lt_of_pos _ (by omega)⟩
theorem nth_mem {l:List DV} {i:Nat} (h:i < l.length):nth (t:=tVec) l i ∈ l:=by rw [nth_lt h]; exact List.getElem_mem h
theorem implIsPolygon_fn (l:List DV):Fn Tryz.prog 73 [⟨.slice tVec,l⟩] false [⟨.bool,polyB l⟩]:=by
 have c1:=within_fn l.length 3 16
 have c2:=areVecs_fn l
 by_cases h1:3<=(l.length:Int)/\(l.length:Int)<=16
 ·rw [decide_eq_true h1] at c1
  cases h2:l.any fun v=>!okV v<;>rw [h2] at c2
  ·have hok:=any_okV h2
   have hN:0 < l.length:=by omega
   refine fe Tryz.func73 Tryz.ntmps73 Tryz.results73 fun hwf=>?_
   try simp (maxSteps:=9^9) only[go_sem]
   repeat refine AI ?_
   refine cw c1 ?_
   try simp (maxSteps:=9^9) only[go_sem]
   repeat refine AI ?_
   refine cw c2 ?_
   try simp (maxSteps:=9^9) only[go_sem]
   refine LoopG.intro _ _ _ (fun i:Nat=>⟨[(0,.sl tVec l),(3,.sc (.int .i64 l.length)),(19,.sl tVec l),(20,.sc (.int .i64 l.length)),(21,.sc (.int .i64 i))],[]⟩) (fun i=>∀ i' k,i' < i->i' < l.length->k < l.length->cornOK l i' k) (fun i=>l.length - i) 0 ?_ (fun i' k h=>absurd h (Nat.not_lt_zero _)) ?_
   ·exact WK
   ·rintro i hi
    have hr:=nxt_rng (i:=i) hN
    unfold nxt at hr
    try simp (maxSteps:=9^9) only[go_sem]
    refine CondW_dec (fun hA=>?_) (fun hA=>?_)
    ·try simp (maxSteps:=9^9) only[go_sem]
     repeat refine AI ?_
     refine RemW.pos (by omega) (by omega) ?_
     try simp (maxSteps:=9^9) only[go_sem]
     repeat refine AI ?_
     refine LoopG.intro _ _ _ (fun k:Nat=>⟨[(0,.sl tVec l),(3,.sc (.int .i64 l.length)),(19,.sl tVec l),(20,.sc (.int .i64 l.length)),(21,.sc (.int .i64 i)),(4,.sc (.int .i64 i)),(5,.ptr 0 0),(6,.ptr 1 0),(33,.sl tVec l),(34,.sc (.int .i64 l.length)),(35,.sc (.int .i64 k))],[(1,.box [.sc (.int .i64 (nth (t:=tVec) l (nxt l.length i).toNat).1),.sc (.int .i64 (nth (t:=tVec) l (nxt l.length i).toNat).2)]),(0,.box [.sc (.int .i64 (nth (t:=tVec) l i).1),.sc (.int .i64 (nth (t:=tVec) l i).2)])]⟩) (fun k=>∀ k',k' < k->k' < l.length->cornOK l i k') (fun k=>l.length - k) 0 ?_ (fun k h=>absurd h (Nat.not_lt_zero _)) ?_
     ·exact WK
     ·rintro k hk
      have hv:=turn_fn (nth (t:=tVec) l i) (nth (t:=tVec) l (nxt l.length i).toNat) (nth (t:=tVec) l k)
      have hi3:i < l.length:=by omega
      have oi:=hok _ (nth_mem hi3)
      have on:=hok _ (nth_mem (l:=l) (i:=(nxt l.length i).toNat) (by unfold nxt; omega))
      try simp (maxSteps:=9^9) only[go_sem]
      refine CondW_dec (fun hB=>?_) (fun hB=>?_)
      ·have hv:=hv oi on (hok _ (nth_mem (by omega)))
       have hgo:cornOK l i k->∀ k',k' < k+1->k' < l.length->cornOK l i k':=fun h k' h1 h2=>by
        by_cases h3:k' < k
        ·exact hk k' h3 h2
        ·rw [show k'=k by omega]; exact h
       by_cases e1:(k:Int)=i
       ·have d1:=decide_eq_true e1
        try simp (maxSteps:=9^9) only[go_sem,d1]
        repeat refine AI ?_
        refine LoopK.mk (k+1) ?_ (hgo fun h=>absurd e1 h) (by omega)
        exact WK
       ·have d1:=decide_eq_false e1
        by_cases e2:(k:Int)=((i:Int)+1) % (l.length:Int)
        ·have d2:=decide_eq_true e2
         try simp (maxSteps:=9^9) only[go_sem,d1]
         repeat refine AI ?_
         refine RemW.pos (by omega) (by omega) ?_
         try simp (maxSteps:=9^9) only[go_sem,d2]
         repeat refine AI ?_
         refine LoopK.mk (k+1) ?_ (hgo fun _ h=>absurd e2 h) (by omega)
         exact WK
        ·have d2:=decide_eq_false e2
         try simp (maxSteps:=9^9) only[go_sem,d1]
         repeat refine AI ?_
         refine RemW.pos (by omega) (by omega) ?_
         try simp (maxSteps:=9^9) only[go_sem,d2]
         repeat refine AI ?_
         refine cw hv ?_
         try simp (maxSteps:=9^9) only[go_sem]
         refine CondW_dec (fun e3=>?_) (fun e3=>?_)
         ·have:¬ polyP l:=fun h=>by
           have:=h.2.2 i k (by omega) (by omega) e1 e2
           omega
          rw [polyB_f this]
          try simp (maxSteps:=9^9) only[go_sem]
         ·try simp (maxSteps:=9^9) only[go_sem]
          repeat refine AI ?_
          refine LoopK.mk (k+1) ?_ (hgo fun _ _=>by omega) (by omega)
          exact WK
      ·try simp (maxSteps:=9^9) only[go_sem]
       repeat refine AI ?_
       refine LoopK.mk (i+1) ?_ (fun i' k' h1 h2 h3=>?_) (by omega)
       ·exact WK
       ·by_cases h4:i' < i
        ·exact hi i' k' h4 h2 h3
        ·rw [show i'=i by omega]; exact hk k' (by omega) h3
    ·have:polyP l:=⟨h1,hok,fun i' k h3 h4=>hi i' k (by omega) h3 h4⟩
     rw [polyB_t this]
     try simp (maxSteps:=9^9) only[go_sem]
  ·have:¬ polyP l:=fun h=>by
    have:=h.2.1
    rw [List.any_eq_true] at h2
    obtain ⟨v,hv,h3⟩:=h2
    rw [this v hv] at h3
    cases h3
   rw [polyB_f this]
   refine fe Tryz.func73 Tryz.ntmps73 Tryz.results73 fun hwf=>?_
   try simp (maxSteps:=9^9) only[go_sem]
   repeat refine AI ?_
   refine cw c1 ?_
   try simp (maxSteps:=9^9) only[go_sem]
   repeat refine AI ?_
   refine cw c2 ?_
   try simp (maxSteps:=9^9) only[go_sem]
 ·rw [decide_eq_false h1] at c1
  have:¬ polyP l:=fun h=>h1 h.1
  rw [polyB_f this]
  refine fe Tryz.func73 Tryz.ntmps73 Tryz.results73 fun hwf=>?_
  try simp (maxSteps:=9^9) only[go_sem]
  repeat refine AI ?_
  refine cw c1 ?_
  try simp (maxSteps:=9^9) only[go_sem]
def specOK (l:List DV) (i k:Nat):Prop:=okV (nth (t:=tVec) l k)=true/\(¬ (k:Int)=i->¬ (k:Int)=nxt l.length i->0 < trq (nth (t:=tVec) l i) (nth (t:=tVec) l (nxt l.length i).toNat) (nth (t:=tVec) l k))
theorem specOK_of {l:List DV} (h:polyP l) {i k:Nat} (hi:i < l.length) (hk:k < l.length):specOK l i k:=by
 have hr:=nxt_rng (n:=l.length) (i:=i) (by omega)
 refine ⟨h.2.1 _ (nth_mem hk),fun h1 h2=>?_⟩
 have h3:=h.2.2 i k hi hk h1 h2
 unfold trq
 rw [h.2.1 _ (nth_mem hi),h.2.1 _ (nth_mem hk),h.2.1 _ (nth_mem (i:=(nxt l.length i).toNat) (by omega))]
 exact h3
theorem polyP_of {l:List DV} (h0:3<=(l.length:Int)/\(l.length:Int)<=16) (h:∀ i k,i < l.length->k < l.length->specOK l i k):polyP l:=by
 have hv:∀ k,k < l.length->okV (nth (t:=tVec) l k)=true:=fun k hk=>(h 0 k (by omega) hk).1
 refine ⟨h0,fun v hm=>?_,fun i k hi hk h1 h2=>?_⟩
 ·obtain ⟨k,hk,rfl⟩:=List.getElem_of_mem hm
  have:=hv k hk
  rw [nth_lt hk] at this
  exact this
 ·have hr:=nxt_rng (n:=l.length) (i:=i) (by omega)
  have h3:=(h i k hi hk).2 h1 h2
  unfold trq at h3
  rw [hv i hi,hv k hk,hv (nxt l.length i).toNat (by omega)] at h3
  exact h3
theorem specIsPolygon_fn (l:List DV):Fn Tryz.prog 62 [⟨.slice tVec,l⟩] false [⟨.bool,polyB l⟩]:=by
 have c1:=l01In_fn l.length 3 16
 by_cases h1:3<=(l.length:Int)/\(l.length:Int)<=16
 ·rw [decide_eq_true h1] at c1
  have hN:0 < l.length:=by omega
  refine fe Tryz.func62 Tryz.ntmps62 Tryz.results62 fun hwf=>?_
  try simp (maxSteps:=9^9) only[go_sem]
  repeat refine AI ?_
  refine cw c1 ?_
  try simp (maxSteps:=9^9) only[go_sem]
  refine LoopG.intro _ _ _ (fun i:Nat=>⟨[(0,.sl tVec l),(3,.sc (.int .i64 l.length)),(14,.sl tVec l),(15,.sc (.int .i64 l.length)),(16,.sc (.int .i64 i))],[]⟩) (fun i=>∀ i' k,i' < i->i' < l.length->k < l.length->specOK l i' k) (fun i=>l.length - i) 0 ?_ (fun i' k h=>absurd h (Nat.not_lt_zero _)) ?_
  ·exact WK
  ·rintro i hi
   have hr:=nxt_rng (i:=i) hN
   unfold nxt at hr
   try simp (maxSteps:=9^9) only[go_sem]
   refine CondW_dec (fun hA=>?_) (fun hA=>?_)
   ·try simp (maxSteps:=9^9) only[go_sem]
    repeat refine AI ?_
    refine RemW.pos (by omega) (by omega) ?_
    try simp (maxSteps:=9^9) only[go_sem]
    repeat refine AI ?_
    refine LoopG.intro _ _ _ (fun k:Nat=>⟨[(0,.sl tVec l),(3,.sc (.int .i64 l.length)),(14,.sl tVec l),(15,.sc (.int .i64 l.length)),(16,.sc (.int .i64 i)),(4,.sc (.int .i64 i)),(5,.ptr 0 0),(6,.ptr 1 0),(28,.sl tVec l),(29,.sc (.int .i64 l.length)),(30,.sc (.int .i64 k))],[(1,.box [.sc (.int .i64 (nth (t:=tVec) l (nxt l.length i).toNat).1),.sc (.int .i64 (nth (t:=tVec) l (nxt l.length i).toNat).2)]),(0,.box [.sc (.int .i64 (nth (t:=tVec) l i).1),.sc (.int .i64 (nth (t:=tVec) l i).2)])]⟩) (fun k=>∀ k',k' < k->k' < l.length->specOK l i k') (fun k=>l.length - k) 0 ?_ (fun k h=>absurd h (Nat.not_lt_zero _)) ?_
    ·exact WK
    ·rintro k hk
     have hv:=Turn_fn (nth (t:=tVec) l i) (nth (t:=tVec) l (nxt l.length i).toNat) (nth (t:=tVec) l k)
     have hw:=IsValidVec_fn (nth (t:=tVec) l k)
     try simp (maxSteps:=9^9) only[go_sem]
     refine CondW_dec (fun hB=>?_) (fun hB=>?_)
     ·have hgo:specOK l i k->∀ k',k' < k+1->k' < l.length->specOK l i k':=fun h k' h1 h2=>by
       by_cases h3:k' < k
       ·exact hk k' h3 h2
       ·rw [show k'=k by omega]; exact h
      cases e0:okV (nth (t:=tVec) l k)<;>rw [e0] at hw
      ·have:¬ polyP l:=fun h=>by
        have:=h.2.1 _ (nth_mem (l:=l) (i:=k) (by omega))
        rw [e0] at this; cases this
       rw [polyB_f this]
       try simp (maxSteps:=9^9) only[go_sem]
       repeat refine AI ?_
       refine cw hw ?_
       try simp (maxSteps:=9^9) only[go_sem]
      ·by_cases e1:(k:Int)=i
       ·have d1:=decide_eq_true e1
        try simp (maxSteps:=9^9) only[go_sem]
        repeat refine AI ?_
        refine cw hw ?_
        try simp (maxSteps:=9^9) only[go_sem]
        try simp (maxSteps:=9^9) only[go_sem,d1]
        repeat refine AI ?_
        refine LoopK.mk (k+1) ?_ (hgo ⟨e0,fun h=>absurd e1 h⟩) (by omega)
        exact WK
       ·have d1:=decide_eq_false e1
        by_cases e2:(k:Int)=((i:Int)+1) % (l.length:Int)
        ·have d2:=decide_eq_true e2
         try simp (maxSteps:=9^9) only[go_sem]
         repeat refine AI ?_
         refine cw hw ?_
         try simp (maxSteps:=9^9) only[go_sem]
         try simp (maxSteps:=9^9) only[go_sem,d1]
         repeat refine AI ?_
         refine RemW.pos (by omega) (by omega) ?_
         try simp (maxSteps:=9^9) only[go_sem,d2]
         repeat refine AI ?_
         refine LoopK.mk (k+1) ?_ (hgo ⟨e0,fun _ h=>absurd e2 h⟩) (by omega)
         exact WK
        ·have d2:=decide_eq_false e2
         try simp (maxSteps:=9^9) only[go_sem]
         repeat refine AI ?_
         refine cw hw ?_
         try simp (maxSteps:=9^9) only[go_sem]
         try simp (maxSteps:=9^9) only[go_sem,d1]
         repeat refine AI ?_
         refine RemW.pos (by omega) (by omega) ?_
         try simp (maxSteps:=9^9) only[go_sem,d2]
         repeat refine AI ?_
         refine cw hv ?_
         try simp (maxSteps:=9^9) only[go_sem]
         refine CondW_dec (fun e3=>?_) (fun e3=>?_)
         ·have:¬ polyP l:=fun h=>by
           have:=(specOK_of h (i:=i) (k:=k) (by omega) (by omega)).2 e1 e2
           omega
          rw [polyB_f this]
          try simp (maxSteps:=9^9) only[go_sem]
         ·try simp (maxSteps:=9^9) only[go_sem]
          repeat refine AI ?_
          refine LoopK.mk (k+1) ?_ (hgo ⟨e0,fun _ _=>by omega⟩) (by omega)
          exact WK
     ·try simp (maxSteps:=9^9) only[go_sem]
      repeat refine AI ?_
      refine LoopK.mk (i+1) ?_ (fun i' k' h1 h2 h3=>?_) (by omega)
      ·exact WK
      ·by_cases h4:i' < i
       ·exact hi i' k' h4 h2 h3
       ·rw [show i'=i by omega]; exact hk k' (by omega) h3
   ·have:polyP l:=polyP_of h1 fun i' k h3 h4=>hi i' k (by omega) h3 h4
    rw [polyB_t this]
    try simp (maxSteps:=9^9) only[go_sem]
 ·rw [decide_eq_false h1] at c1
  have:¬ polyP l:=fun h=>h1 h.1
  rw [polyB_f this]
  refine fe Tryz.func62 Tryz.ntmps62 Tryz.results62 fun hwf=>?_
  try simp (maxSteps:=9^9) only[go_sem]
  repeat refine AI ?_
  refine cw c1 ?_
  try simp (maxSteps:=9^9) only[go_sem]
abbrev Arg (w:World) (v:Value) (d:Dat):Prop:=∃ fp,DRep w v d fp
theorem Arg.int {w:World} {n:Int} (h:I64 n):Arg w (.int .i64 n) ⟨.int,n⟩:=⟨[],[_],.inr ⟨rfl,rfl⟩,rfl,rfl,h⟩
theorem Arg.bool {w:World} {b:Bool}:Arg w (.bool b) ⟨.bool,b⟩:=⟨[],[_],.inr ⟨rfl,rfl⟩,rfl,rfl⟩
theorem Arg.str {w:World} {s:ByteArray} (h:s.size<=maxLen):Arg w (.string s) ⟨.str,s⟩:=⟨[],[_],.inr ⟨rfl,rfl⟩,rfl,rfl,h⟩
theorem Arg.sl {w:World} {v:Value} {a:Ty} {l:List a.den} (h:Has (Rp.slice a.rp a.pos) w [v] l):Arg w v ⟨.slice a,l⟩:=by
 obtain ⟨fp,h⟩:=h
 exact ⟨fp,[v],.inr ⟨rfl,rfl⟩,h⟩
theorem Arg.agg {w:World} {cs:List Value} {t:Ty} {x:t.den} (ht:t.isAgg=true) (h:Has t.rp w cs x):Arg w (.agg cs.toArray) ⟨t,x⟩:=by
 obtain ⟨fp,h⟩:=h
 exact ⟨fp,cs,.inl ⟨ht,rfl⟩,h⟩
section
variable {P:Program} {f:FuncId} {args:List Dat} {own:Bool} {t:Ty} {x:t.den} {w:World} {vs:List Value}
theorem Fn.go (h:Fn P f args own [⟨t,x⟩]) (ha:All2 (Arg w) vs args) (hg:Gw P w:=by exact Gw.none (by kernel_rfl)):Calls P f vs.toArray w fun e w'=>Below w.heap.size w w'/\∃ v,e=.returned v/\∃ fp,DRep w' v ⟨t,x⟩ fp/\(own=true->OwnFp w.heap.size w' fp):=by
 refine (h.2 w vs (fun _=>True) hg (ha.mono fun v d _ ⟨fp,h⟩=>⟨fp,h,fun _ _=>trivial⟩)).mono fun e w' ⟨hb,v,he,hr⟩=>⟨hb,v,he,?_⟩
 obtain ⟨fp,h1,h2,_⟩:=hr
 exact ⟨fp,h1,h2⟩
theorem Fn.bool {b:Bool} (h:Fn P f args own [⟨.bool,b⟩]) (ha:All2 (Arg w) vs args) (hg:Gw P w:=by exact Gw.none (by kernel_rfl)):Calls P f vs.toArray w (Post (fun v w'=>v=.bool b/\Below w.heap.size w w')):=by
 refine (h.go ha hg).mono fun e w' ⟨hb,v,he,fp,⟨cs,hp,hr⟩,_⟩=>⟨v,he,?_,hb⟩
 rcases hp with ⟨h,_⟩|⟨_,rfl⟩
 ·cases h
 ·exact List.cons.inj hr.1 |>.1
theorem Fn.int {n:Int} (h:Fn P f args own [⟨.int,n⟩]) (ha:All2 (Arg w) vs args) (hg:Gw P w:=by exact Gw.none (by kernel_rfl)):Calls P f vs.toArray w (Post (fun v w'=>v=.int .i64 n/\Below w.heap.size w w')):=by
 refine (h.go ha hg).mono fun e w' ⟨hb,v,he,fp,⟨cs,hp,hr⟩,_⟩=>⟨v,he,?_,hb⟩
 rcases hp with ⟨h,_⟩|⟨_,rfl⟩
 ·cases h
 ·exact List.cons.inj hr.1 |>.1
structure HasR {α:Type} (A:Rp α) (w:World) (cs:List Value) (a:α):Prop where
 has:Has A w cs a
end
section
variable {P:Program} {f:FuncId} {fn:Func} {code:Code}
theorem enters (hf:P.funcs[f]? = some fn) (hname:(fn.name == "runtime.NumGoroutine")=false) (hb:fn.body=some code):∀ vs w,(callFunc f vs).run P w=.ok (.enter f vs) w:=by
 intro vs w
 have h1:fn.name ≠ "runtime.NumGoroutine":=by simpa using hname
 simp [callFunc,hf,h1,hb]
theorem drep_int {w:World} {v:Value} {n:Int} {fp:List Nat} (h:DRep w v ⟨.int,n⟩ fp):v=.int .i64 n:=by
 obtain ⟨cs,hp,hr⟩:=h
 rcases hp with ⟨h,_⟩|⟨_,rfl⟩
 ·cases h
 ·exact (List.cons.inj hr.1).1
theorem dres_int {own:Bool} {base:Nat} {S:Nat->Prop} {w:World} {n:Int} (h:I64 n):DRes own base S w (.int .i64 n) ⟨.int,n⟩:=⟨[],⟨[_],.inr ⟨rfl,rfl⟩,rfl,rfl,h⟩,fun _=>ownFp_nil _ _,fun b hb=>by cases hb⟩
theorem dres_bool {own:Bool} {base:Nat} {S:Nat->Prop} {w:World} {n:Bool}:DRes own base S w (.bool n) ⟨.bool,n⟩:=⟨[],⟨[_],.inr ⟨rfl,rfl⟩,rfl,rfl⟩,fun _=>ownFp_nil _ _,fun b hb=>by cases hb⟩
variable (en:∀ vs w,(callFunc f vs).run P w=.ok (.enter f vs) w)
include en
theorem Fn.ofInt {t:Ty} {x:t.den} {n r:Int} (hI:I64 r) (h:∀ w v cs,pk t v cs->Has t.rp w cs x->Calls P f #[v,.int .i64 n] w (Post fun v w'=>v=.int .i64 r/\Below w.heap.size w w')):Fn P f [⟨t,x⟩,⟨.int,n⟩] false [⟨.int,r⟩]:=by
 refine ⟨en,fun w vs S _ ha=>?_⟩
 match vs,ha with
 | [v1,v2],⟨⟨fp1,⟨cs,hp,hr⟩,_⟩,⟨fp2,h2,_⟩,_⟩ =>
  obtain rfl:=drep_int h2
  refine (h w v1 cs hp ⟨fp1,hr⟩).mono fun e w' ⟨v,he,hv,hb⟩=>⟨hb,v,he,?_⟩
  subst hv
  exact dres_int hI
 | [],ha=>exact ha.elim
 | [_],ha=>exact ha.2.elim
 | _ :: _ :: _ :: _,ha=>exact ha.2.2.elim
theorem Fn.ofEq {t:Ty} {x y:t.den} {r:Bool} (h:∀ w v cs u ds,pk t v cs->Has t.rp w cs x->pk t u ds->Has t.rp w ds y->Calls P f #[v,u] w (Post fun v w'=>v=.bool r/\Below w.heap.size w w')):Fn P f [⟨t,x⟩,⟨t,y⟩] false [⟨.bool,r⟩]:=by
 refine ⟨en,fun w vs S _ ha=>?_⟩
 match vs,ha with
 | [v1,v2],⟨⟨fp1,⟨cs,hp,hr⟩,_⟩,⟨fp2,⟨ds,hp2,hr2⟩,_⟩,_⟩ =>
  refine (h w v1 cs v2 ds hp ⟨fp1,hr⟩ hp2 ⟨fp2,hr2⟩).mono fun e w' ⟨v,he,hv,hb⟩=>⟨hb,v,he,?_⟩
  subst hv
  exact dres_bool
 | [],ha=>exact ha.elim
 | [_],ha=>exact ha.2.elim
 | _ :: _ :: _ :: _,ha=>exact ha.2.2.elim
theorem Fn.ofOwn {t t':Ty} {x:t.den} {y:t'.den} (h:∀ w v cs,pk t v cs->Has t.rp w cs x->Calls P f #[v] w (Post fun v w'=>(∃ cs',pk t' v cs'/\Own t'.rp w.heap.size w' cs' y)/\Below w.heap.size w w')):Fn P f [⟨t,x⟩] true [⟨t',y⟩]:=by
 refine ⟨en,fun w vs S _ ha=>?_⟩
 match vs,ha with
 | [v1],⟨⟨fp1,⟨cs,hp,hr⟩,_⟩,_⟩ =>
  refine (h w v1 cs hp ⟨fp1,hr⟩).mono fun e w' ⟨v,he,⟨cs',hp',fp,hr',ho⟩,hb⟩=>⟨hb,v,he,?_⟩
  exact ⟨fp,⟨cs',hp',hr'⟩,fun _=>ho,fun b hb=>.inr (ho.2 b hb).1⟩
 | [],ha=>exact ha.elim
 | _ :: _ :: _,ha=>exact ha.2.elim
theorem FnM.of {t:Ty} {x x':t.den} {k r:Int} (hI:I64 r) (h:∀ w v cs fp,pk t v cs->t.rp.rep w cs x fp->fp.Nodup->(∀ b ∈ fp,Free w b)->Calls P f #[v,.int .i64 k] w (Post (MarkPost t.rp cs x' fp r w))):FnM P f t x x' k r:=⟨en,hI,h⟩
end
theorem pk_agg {t:Ty} {v:Value} {cs:List Value} (ht:t.isAgg=true) (h:pk t v cs):v=.agg cs.toArray:=by
 rcases h with ⟨_,h⟩|⟨h,_⟩
 ·exact h
 ·rw [ht] at h; cases h
theorem pk_one {t:Ty} {v:Value} {cs:List Value} (ht:t.isAgg=false) (h:pk t v cs):cs=[v]:=by
 rcases h with ⟨h,_⟩|⟨_,h⟩
 ·rw [ht] at h; cases h
 ·exact h
theorem szr_I64 {n:Int} {t:Nat} (h0:0<=n) (h1:n<=1048576):I64 (szr n t):=by
 have:=szr_lo n t h0
 constructor<;>omega
theorem small_I64 {n:Int} (h0:0<=n) (h1:n<=1073741824):I64 n:=by constructor<;>omega
@[go_sem] theorem ex_row {i ver:Nat} {p:Nat->Prop}:(∃ k,AV.row i ver=AV.row k ver/\p k)=p i:=propext ⟨fun ⟨k,e,h⟩=>by injection e with e; exact e ▸ h,fun h=>⟨i,rfl,h⟩⟩
@[go_sem] theorem eqb_self {α:Type} (a:α):eqb a a=true:=eqb_true rfl
end Go.Proofs.YtpdiggaapdhffaaGreat.DW

namespace Go.Proofs.YtpdiggaapdhffaaGreat
open Go.RowKit
set_option maxHeartbeats 400000 in
theorem szIntS_any (v:Value) (l:List Int) (left:Int) (w:World) (hl:Has RIntS w [v] l) (h0:0<=left) (h1:left<=1048576) :
  Calls Tryz.prog 18 #[v,.int .i64 left] w (Post (SzPost left l.length w)):=by
 obtain ⟨ad,c,rfl,hc,hm⟩:=hl.len_slice
 unfold maxLen at hm
 go_enter Tryz.func18,Tryz.ntmps18
 go_wp2
 ·go_ret
  exact ⟨_,rfl,congrArg (Value.int .i64) (szr_lt (by omega)),Below.refl _ _⟩
 ·go_ret
  exact ⟨_,rfl,congrArg (Value.int .i64) (szr_ge (by omega)),Below.refl _ _⟩
set_option maxHeartbeats 400000 in
theorem szBigInt_any (c0 c1:Value) (x:DBigInt) (left:Int) (w:World) (hx:Has RBigInt w [c0,c1] x) (h0:0<=left) (h1:left<=1048576) :
  Calls Tryz.prog 117 #[.agg #[c0,c1],.int .i64 left] w (Post (SzPost left (tBigInt x) w)):=by
 obtain ⟨hx0,hx1⟩:=hx.split [c0] [c1] rfl
 have HX1:=Lib.hid hx1
 clear hx hx0 hx1
 go_enter Tryz.func117,Tryz.ntmps117
 have hb0:=(Below.refl w.heap.size w).alloc (Nat.le_refl _) (Obj.cells #[c0,c1] 131)
 go_wp2_with fail
 refine (szIntS_any _ _ _ _ (HX1.out.below hb0) h0 h1).mono ?_
 rintro e w1 ⟨v,rfl,rfl,hbx1⟩
 have hr1:=szr_lo left (x.2.length) h0
 have hb1:=Below.up hb0 hbx1 hb0.size
 go_wp2
 ·go_ret
  exact ⟨_,rfl,congrArg (Value.int .i64) (szr_fail (by assumption) (by unfold tBigInt; omega)),hb1⟩
 ·go_ret
  exact ⟨_,rfl,rfl,hb1⟩
set_option maxHeartbeats 400000 in
theorem szRat_any (c0 c1 c2:Value) (x:DRat) (left:Int) (w:World) (hx:Has RRat w [c0,c1,c2] x) (h0:0<=left) (h1:left<=1048576) :
  Calls Tryz.prog 106 #[.agg #[c0,c1,c2],.int .i64 left] w (Post (SzPost left (tRat x) w)):=by
 obtain ⟨hx0,hx1⟩:=hx.split [c0,c1] [c2] rfl
 have HX0:=Lib.hid hx0
 have HX1:=Lib.hid hx1
 clear hx hx0 hx1
 go_enter Tryz.func106,Tryz.ntmps106
 have hb0:=(Below.refl w.heap.size w).alloc (Nat.le_refl _) (Obj.cells #[c0,c1,c2] 133)
 go_wp2_with fail
 refine (szBigInt_any _ _ _ _ _ (HX0.out.below hb0) h0 h1).mono ?_
 rintro e w1 ⟨v,rfl,rfl,hbx1⟩
 have hr1:=szr_lo left (tBigInt x.1) h0
 have hb1:=Below.up hb0 hbx1 hb0.size
 obtain ⟨hc1,hf1⟩:=bcell hbx1
 go_wp2_with fail
 ·go_ret
  exact ⟨_,rfl,congrArg (Value.int .i64) (szr_fail (by assumption) (by unfold tRat; omega)),hb1⟩
 ·have hge1:0<=szr left (tBigInt x.1):=by assumption
  refine (szIntS_any _ _ _ _ (HX1.out.below hb1) hge1 (by omega)).mono ?_
  rintro e w2 ⟨v,rfl,rfl,hbx2⟩
  rw [szr_add _ _ _ hge1]
  have hr2:=szr_lo left (tBigInt x.1+x.2.length) h0
  have hb2:=Below.up hb1 hbx2 hb1.size
  go_wp2
  ·go_ret
   exact ⟨_,rfl,congrArg (Value.int .i64) (szr_fail (by assumption) (by unfold tRat; omega)),hb2⟩
  ·go_ret
   exact ⟨_,rfl,rfl,hb2⟩
theorem infoint:(Tryz.prog.info? 3).map (fun i=>(i.zero,i.size,i.bytes))=some (some (.int .i64 0),1,8):=by kernel_rfl
set_option maxHeartbeats 400000 in
theorem toIntS_any (v:Value) (l:DIntS) (w:World) (hl:Has RIntS w [v] l) (hs:l.length<=1048576) :
  Calls Tryz.prog 25 #[v] w (Post (Own1Post RIntS l w)):=by
 obtain ⟨ad,c,rfl,hc,hm,hg⟩:=hl.elems
 unfold maxLen at hm
 have HG:=Lib.hid hg; clear hg hl
 have hln:l.length<=1048576:=by omega
 obtain ⟨i0,hi,hz0,hz1,hz2⟩:=info_parts infoint
 go_enter Tryz.func25,Tryz.ntmps25
 go_wp2_with (at_make; refine wpList_make_full _ rfl _ _ 29 rfl w.heap.size 3 i0 _ 1 Tryz.underlying29 hi hz0 hz1 _ _ _ _ l.length rfl rfl rfl rfl (by rw [hz2]; omega) (by unfold maxLen; omega) (Nat.le_refl _) ?_)
 intro w1 hown hgrow
 have hb0:Below w.heap.size w w1:=(Below.refl _ _).grown hgrow (Nat.le_refl _) (by simp)
 have HM0:=Lib.hid (Made.start (A:=Rp.int) hown); clear hown hgrow hi hz0 hz1 hz2
 go_wp2
 go_loopw [4] (fun i wr=>∃ k:Nat,k<=l.length/\i=.int .i64 k/\Made Rp.int wr w.heap.size l.length 3 (l.take k)/\Below w.heap.size w wr) (fun i _=>l.length - (intOf i).toNat)
 case atStart=>exact ⟨0,Nat.zero_le _,rfl,HM0.out,hb0⟩
 case round =>
  obtain ⟨k,hk,rfl,hM,hbw⟩:=hrel
  have HM:=Lib.hid hM; clear hM
  by_cases hkl:k < l.length
  rotate_left
  ·obtain rfl:k=l.length:=by omega
   go_wp2
   go_ret
   have h:=HM.out
   rw [List.take_length] at h
   exact ⟨_,rfl,h.own rfl (by unfold maxLen; omega) (Nat.le_refl _),hbw⟩
  have hgl:w.heap.size < wr.heap.size:=HM.out.lt
  obtain ⟨b,off,cs,rfl,hbl,hx,hcs⟩:=HG.out k hkl
  obtain ⟨c0,rfl⟩:=list1 hx.len
  have hI:=hx.int.2
  obtain rfl:=hx.int.1
  have g0:wr.cell? ⟨b,off+k,none⟩=some (.int .i64 l[k]):=(hbw.cell (p:=⟨b,_,none⟩) hbl).trans (by simpa [Rp.int] using hcs 0 _ rfl)
  obtain ⟨y0,hy0⟩:=HM.out.cell k (by simp [Rp.int]; omega)
  have hfz:=HM.out.frozen
  have HI:=Lib.hid hI
  clear hcs hx hI
  go_wp2
  go_roundw
  case rel =>
   have hst:=HM.out.step (Below.refl _ _) (Own.int wr.heap.size wr HI.out) (by rw [List.length_take]; omega)
   rw [<-List.take_succ_eq_append_getElem hkl,List.length_take,Nat.min_eq_left hk] at hst
   exact ⟨k+1,by omega,by go_num,by simpa [Rp.int,putCells] using hst,hbw.setCell (p:=⟨w.heap.size,k,none⟩) (Nat.le_refl _) _⟩
  case measure=>simp [intOf]; omega
set_option maxHeartbeats 400000 in
theorem toBigInt_any (c0 c1:Value) (x:DBigInt) (w:World) (hx:Has RBigInt w [c0,c1] x) (hs:tBigInt x<=1048576) :
  Calls Tryz.prog 120 #[.agg #[c0,c1]] w (Post (OwnPost RBigInt x w)):=by
 obtain ⟨hx0,hx1⟩:=hx.split [c0] [c1] rfl
 obtain rfl:=hx0.bool
 have HX1:=Lib.hid hx1
 clear hx hx0 hx1
 have HS:=Lib.hid hs; clear hs
 go_enter Tryz.func120,Tryz.ntmps120
 go_wp2_with fail
 refine (toIntS_any _ _ _ (HX1.out.below ((((Below.refl w.heap.size w).alloc (Nat.le_refl _) _).alloc (by simp<;>omega) _).alloc (by simp<;>omega) _)) (by have:=HS.out; unfold tBigInt at this; omega)).mono ?_
 rintro e w1 ⟨v1,rfl,ho1,hbx1⟩
 obtain ⟨ad1,cap1,rfl,_,_⟩:=ho1.has.len_slice
 simp only [World.size_alloc] at ho1
 have HO1_1:=Lib.hid ho1.inn; clear ho1
 have hb1:=Below.up ((((Below.refl w.heap.size w).alloc (Nat.le_refl _) _).alloc (by simp<;>omega) _).alloc (by simp<;>omega) _) hbx1 (by simp<;>omega)
 have hz1:=hbx1.size
 simp at hz1
 have q1_0:w.heap.size < w1.heap.size:=by omega
 have q1_1:w.heap.size+1 < w1.heap.size:=by omega
 have q1_2:w.heap.size+1+1 < w1.heap.size:=by omega
 obtain ⟨hc1,hf1⟩:=bcell hbx1
 go_wp2
 refine bodyPost_ret (v:=.agg #[(Value.bool x.1),(Value.slice ad1 (x.2).length cap1)]) (by simp [results,Tryz.results120,go_sem,hc1]) rfl ⟨_,rfl,⟨[(Value.bool x.1),(Value.slice ad1 (x.2).length cap1)],rfl,?_⟩,?_⟩
 ·have G1:=(((HO1_1.out.setCell (p:=⟨w.heap.size+1+1,1,none⟩) (.inl (by simp<;>omega)) (Value.slice ad1 (x.2).length cap1)).setCell (p:=⟨w.heap.size+1,0,none⟩) (.inl (by simp<;>omega)) (Value.bool x.1)).setCell (p:=⟨w.heap.size+1,1,none⟩) (.inl (by simp<;>omega)) (Value.slice ad1 (x.2).length cap1))
  exact OwnIn.own (OwnIn.pair (OwnIn.bool (w.heap.size+1+1+1) _ x.1) G1 (by omega) (by omega) (by omega)) (by omega)
 ·exact (((hb1.setCell (p:=⟨w.heap.size+1+1,1,none⟩) (by simp<;>omega) (Value.slice ad1 (x.2).length cap1)).setCell (p:=⟨w.heap.size+1,0,none⟩) (by simp<;>omega) (Value.bool x.1)).setCell (p:=⟨w.heap.size+1,1,none⟩) (by simp<;>omega) (Value.slice ad1 (x.2).length cap1))
set_option maxHeartbeats 400000 in
theorem toRat_any (c0 c1 c2:Value) (x:DRat) (w:World) (hx:Has RRat w [c0,c1,c2] x) (hs:tRat x<=1048576) :
  Calls Tryz.prog 109 #[.agg #[c0,c1,c2]] w (Post (OwnPost RRat x w)):=by
 obtain ⟨hx0,hx1⟩:=hx.split [c0,c1] [c2] rfl
 have HX0:=Lib.hid hx0
 have HX1:=Lib.hid hx1
 clear hx hx0 hx1
 have HS:=Lib.hid hs; clear hs
 go_enter Tryz.func109,Tryz.ntmps109
 go_wp2_with fail
 refine (toBigInt_any _ _ _ _ (HX0.out.below ((((Below.refl w.heap.size w).alloc (Nat.le_refl _) _).alloc (by simp<;>omega) _).alloc (by simp<;>omega) _)) (by have:=HS.out; unfold tRat at this; omega)).mono ?_
 rintro e w1 ⟨v1,rfl,⟨cs1,rfl,ho1⟩,hbx1⟩
 obtain ⟨v1_0,v1_1,rfl⟩:=list2 ho1.has.len
 have ov1_0:=ho1.has.one 0 _ rfl
 have ov1_1:=ho1.has.one 1 _ rfl
 simp only [World.size_alloc] at ho1
 have HO1_1:=Lib.hid ho1.inn; clear ho1
 have hb1:=Below.up ((((Below.refl w.heap.size w).alloc (Nat.le_refl _) _).alloc (by simp<;>omega) _).alloc (by simp<;>omega) _) hbx1 (by simp<;>omega)
 have hz1:=hbx1.size
 simp at hz1
 have q1_0:w.heap.size < w1.heap.size:=by omega
 have q1_1:w.heap.size+1 < w1.heap.size:=by omega
 have q1_2:w.heap.size+1+1 < w1.heap.size:=by omega
 obtain ⟨hc1,hf1⟩:=bcell hbx1
 go_wp2_with fail
 have hbs1:=((hb1.setCell (p:=⟨w.heap.size+1+1,0,none⟩) (by simp<;>omega) v1_0).setCell (p:=⟨w.heap.size+1+1,1,none⟩) (by simp<;>omega) v1_1)
 have HOs1_1:=((HO1_1.out.setCell (p:=⟨w.heap.size+1+1,0,none⟩) (.inl (by simp<;>omega)) v1_0).setCell (p:=⟨w.heap.size+1+1,1,none⟩) (.inl (by simp<;>omega)) v1_1)
 refine (toIntS_any _ _ _ (HX1.out.below hbs1) (by have:=HS.out; unfold tRat at this; omega)).mono ?_
 rintro e w2 ⟨v2,rfl,ho2,hbx2⟩
 obtain ⟨ad2,cap2,rfl,_,_⟩:=ho2.has.len_slice
 simp only [World.size_setCell] at ho2
 have HO2_2:=Lib.hid ho2.inn; clear ho2
 have hb2:=Below.up hbs1 hbx2 (by simp<;>omega)
 have hz2:=hbx2.size
 simp at hz2
 have q2_0:w.heap.size < w2.heap.size:=by omega
 have q2_1:w.heap.size+1 < w2.heap.size:=by omega
 have q2_2:w.heap.size+1+1 < w2.heap.size:=by omega
 have HO1_2:=Lib.hid (HOs1_1.below hbx2 (by simp)); clear HOs1_1 HO1_1
 obtain ⟨hc2,hf2⟩:=bcell hbx2
 go_wp2
 refine bodyPost_ret (v:=.agg #[v1_0,v1_1,(Value.slice ad2 (x.2).length cap2)]) (by simp [results,Tryz.results109,go_sem,hc1,hc2,q1_1]) rfl ⟨_,rfl,⟨[v1_0,v1_1,(Value.slice ad2 (x.2).length cap2)],rfl,?_⟩,?_⟩
 ·have G1:=((((HO1_2.out.setCell (p:=⟨w.heap.size+1+1,2,none⟩) (.inl (by simp<;>omega)) (Value.slice ad2 (x.2).length cap2)).setCell (p:=⟨w.heap.size+1,0,none⟩) (.inl (by simp<;>omega)) v1_0).setCell (p:=⟨w.heap.size+1,1,none⟩) (.inl (by simp<;>omega)) v1_1).setCell (p:=⟨w.heap.size+1,2,none⟩) (.inl (by simp<;>omega)) (Value.slice ad2 (x.2).length cap2))
  have G2:=((((HO2_2.out.setCell (p:=⟨w.heap.size+1+1,2,none⟩) (.inl (by simp<;>omega)) (Value.slice ad2 (x.2).length cap2)).setCell (p:=⟨w.heap.size+1,0,none⟩) (.inl (by simp<;>omega)) v1_0).setCell (p:=⟨w.heap.size+1,1,none⟩) (.inl (by simp<;>omega)) v1_1).setCell (p:=⟨w.heap.size+1,2,none⟩) (.inl (by simp<;>omega)) (Value.slice ad2 (x.2).length cap2))
  exact OwnIn.own (OwnIn.pair G1 G2 (by omega) (by omega) (by omega)) (by omega)
 ·exact ((((hb2.setCell (p:=⟨w.heap.size+1+1,2,none⟩) (by simp<;>omega) (Value.slice ad2 (x.2).length cap2)).setCell (p:=⟨w.heap.size+1,0,none⟩) (by simp<;>omega) v1_0).setCell (p:=⟨w.heap.size+1,1,none⟩) (by simp<;>omega) v1_1).setCell (p:=⟨w.heap.size+1,2,none⟩) (by simp<;>omega) (Value.slice ad2 (x.2).length cap2))
set_option maxHeartbeats 400000 in
theorem eqIntS_any (va vb:Value) (a b:DIntS) (w:World) (ha:Has RIntS w [va] a) (hb:Has RIntS w [vb] b) :
  Calls Tryz.prog 10 #[va,vb] w (Post (EqPost a b w)):=by
 obtain ⟨aa,ca,rfl,la,ma,ga⟩:=ha.elems
 obtain ⟨ab,cb,rfl,lb,mb,gb⟩:=hb.elems
 unfold maxLen at ma mb
 have HA:=Lib.hid ga; have HB:=Lib.hid gb; clear ga gb ha hb
 by_cases hl:a.length=b.length
 rotate_left
 ·have hn:((a.length:Int) != (b.length:Int))=true:=by simp; omega
  have HL:=Lib.hid hl; clear hl
  go_enter Tryz.func10,Tryz.ntmps10
  go_wp2
  go_ret
  exact ⟨_,rfl,congrArg Value.bool (eqb_false fun h=>HL.out (by rw [h])).symm,Below.refl _ _⟩
 have hn:((a.length:Int) != (b.length:Int))=false:=by simp; omega
 have HL:=Lib.hid hl; clear hl
 go_enter Tryz.func10,Tryz.ntmps10
 go_wp2
 go_loopw [5] (fun i wr=>∃ k:Nat,k<=a.length/\i=.int .i64 k/\a.take k=b.take k/\Below w.heap.size w wr) (fun i _=>a.length - (intOf i).toNat)
 case atStart=>exact ⟨0,Nat.zero_le _,rfl,rfl,Below.refl _ _⟩
 case round =>
  obtain ⟨k,hk,rfl,htk,hbw⟩:=hrel
  have HT:=Lib.hid htk; clear htk
  by_cases hlt:k < a.length
  rotate_left
  ·go_wp2
   go_ret
   exact ⟨_,rfl,congrArg Value.bool (eqb_true (by have h1:=HT.out; have h2:=HL.out; rwa [List.take_of_length_le (by omega),List.take_of_length_le (by omega)] at h1)).symm,hbw⟩
  have hlt':k < b.length:=by have:=HL.out; omega
  obtain ⟨b1,o1,cs1,rfl,hbl,hx,hcs⟩:=HA.out k hlt
  obtain ⟨b2,o2,cs2,rfl,hbl2,hy,hds⟩:=HB.out k hlt'
  obtain ⟨c0,rfl⟩:=list1 hx.len
  obtain ⟨d0,rfl⟩:=list1 hy.len
  obtain rfl:=hx.int.1
  obtain rfl:=hy.int.1
  have g0:wr.cell? ⟨b1,o1+k,none⟩=some (.int .i64 a[k]):=(hbw.cell (p:=⟨b1,_,none⟩) hbl).trans (by simpa [Rp.int] using hcs 0 _ rfl)
  have e0:wr.cell? ⟨b2,o2+k,none⟩=some (.int .i64 b[k]):=(hbw.cell (p:=⟨b2,_,none⟩) hbl2).trans (by simpa [Rp.int] using hds 0 _ rfl)
  clear hcs hds hx hy
  by_cases hab:a[k]=b[k]
  ·have hn:(a[k] != b[k])=false:=by simp [hab]
   have HAB:=Lib.hid hab; clear hab
   go_wp2
   go_quiet (fail)
   go_wp2
   go_roundw
   case rel=>exact ⟨k+1,by omega,by go_num,by rw [List.take_succ_eq_append_getElem hlt,List.take_succ_eq_append_getElem hlt',HT.out,HAB.out],hbw.drewN _⟩
   case measure=>simp [intOf]; omega
  ·have hn:(a[k] != b[k])=true:=by simp [hab]
   have HAB:=Lib.hid hab; clear hab
   go_wp2
   go_quiet (fail)
   go_wp2
   go_ret
   exact ⟨_,rfl,congrArg Value.bool (eqb_false fun h=>HAB.out (by subst h; rfl)).symm,hbw.drewN _⟩
set_option maxHeartbeats 400000 in
theorem eqBigInt_any (c0 c1 d0 d1:Value) (x y:DBigInt) (w:World) (hx:Has RBigInt w [c0,c1] x) (hy:Has RBigInt w [d0,d1] y) :
  Calls Tryz.prog 124 #[.agg #[c0,c1],.agg #[d0,d1]] w (Post (EqPost x y w)):=by
 obtain ⟨hx0,hx1⟩:=hx.split [c0] [c1] rfl
 obtain ⟨hy0,hy1⟩:=hy.split [d0] [d1] rfl
 obtain rfl:=hx0.bool
 obtain rfl:=hy0.bool
 have HX1:=Lib.hid hx1
 have HY1:=Lib.hid hy1
 clear hx hy hx0 hx1 hy0 hy1
 by_cases he0:x.1=y.1
 rotate_left
 ·have hn:(!(x.1 == y.1))=true:=by simp [he0]
  have HN:=Lib.hid he0; clear he0
  go_enter Tryz.func124,Tryz.ntmps124
  go_wp2
  go_ret
  exact ⟨_,rfl,congrArg Value.bool (eqb_false fun h=>HN.out (by rw [h])).symm,((Below.refl w.heap.size w).alloc (Nat.le_refl _) _).alloc (by simp) _⟩
 have hn0:(!(x.1 == y.1))=false:=by simp [he0]
 have HE0:=Lib.hid he0; clear he0
 go_enter Tryz.func124,Tryz.ntmps124
 have hb0:=((Below.refl w.heap.size w).alloc (Nat.le_refl _) (Obj.cells #[.bool x.1,c1] 121)).alloc (by simp) (Obj.cells #[.bool y.1,d1] 121)
 go_wp2_with fail
 refine (eqIntS_any _ _ _ _ _ (HX1.out.below hb0) (HY1.out.below hb0)).mono ?_
 rintro e w1 ⟨v,rfl,rfl,hbx1⟩
 have hb1:=Below.up hb0 hbx1 hb0.size
 by_cases he1:x.2=y.2
 rotate_left
 ·rw [eqb_false he1]
  have HN:=Lib.hid he1; clear he1
  go_wp2
  go_ret
  exact ⟨_,rfl,congrArg Value.bool (eqb_false fun h=>HN.out (by rw [h])).symm,hb1⟩
 rw [eqb_true he1]
 have HE1:=Lib.hid he1; clear he1
 go_wp2
 go_ret
 exact ⟨_,rfl,congrArg Value.bool (eqb_true (Prod.ext HE0.out (HE1.out))).symm,hb1⟩
set_option maxHeartbeats 400000 in
theorem eqRat_any (c0 c1 c2 d0 d1 d2:Value) (x y:DRat) (w:World) (hx:Has RRat w [c0,c1,c2] x) (hy:Has RRat w [d0,d1,d2] y) :
  Calls Tryz.prog 116 #[.agg #[c0,c1,c2],.agg #[d0,d1,d2]] w (Post (EqPost x y w)):=by
 obtain ⟨hx0,hx1⟩:=hx.split [c0,c1] [c2] rfl
 obtain ⟨hy0,hy1⟩:=hy.split [d0,d1] [d2] rfl
 have HX0:=Lib.hid hx0
 have HY0:=Lib.hid hy0
 have HX1:=Lib.hid hx1
 have HY1:=Lib.hid hy1
 clear hx hy hx0 hx1 hy0 hy1
 go_enter Tryz.func116,Tryz.ntmps116
 have hb0:=((Below.refl w.heap.size w).alloc (Nat.le_refl _) (Obj.cells #[c0,c1,c2] 123)).alloc (by simp) (Obj.cells #[d0,d1,d2] 123)
 go_wp2_with fail
 refine (eqBigInt_any _ _ _ _ _ _ _ (HX0.out.below hb0) (HY0.out.below hb0)).mono ?_
 rintro e w1 ⟨v,rfl,rfl,hbx1⟩
 have hb1:=Below.up hb0 hbx1 hb0.size
 obtain ⟨hc1,hf1⟩:=bcell hbx1
 by_cases he0:x.1=y.1
 rotate_left
 ·rw [eqb_false he0]
  have HN:=Lib.hid he0; clear he0
  go_wp2
  go_ret
  exact ⟨_,rfl,congrArg Value.bool (eqb_false fun h=>HN.out (by rw [h])).symm,hb1⟩
 rw [eqb_true he0]
 have HE0:=Lib.hid he0; clear he0
 go_wp2_with fail
 refine (eqIntS_any _ _ _ _ _ (HX1.out.below hb1) (HY1.out.below hb1)).mono ?_
 rintro e w2 ⟨v,rfl,rfl,hbx2⟩
 have hb2:=Below.up hb1 hbx2 hb1.size
 by_cases he1:x.2=y.2
 rotate_left
 ·rw [eqb_false he1]
  have HN:=Lib.hid he1; clear he1
  go_wp2
  go_ret
  exact ⟨_,rfl,congrArg Value.bool (eqb_false fun h=>HN.out (by rw [h])).symm,hb2⟩
 rw [eqb_true he1]
 have HE1:=Lib.hid he1; clear he1
 go_wp2
 go_ret
 exact ⟨_,rfl,congrArg Value.bool (eqb_true (Prod.ext HE0.out (HE1.out))).symm,hb2⟩
set_option maxHeartbeats 400000 in
theorem markIntS_any (v:Value) (x:DIntS) (k:Int) (fp:List Nat) (w:World) (hx:RIntS.rep w [v] x fp) (hn:fp.Nodup) (hf:∀ b ∈ fp,Free w b) (h0:0<=k) (h1:k+x.length<=1073741824) :
  Calls Tryz.prog 15 #[v,.int .i64 k] w (Post (MarkPost RIntS [v] (mkIntS x k) fp (k+x.length) w)):=by
 obtain ⟨ad,c,hv,hlc,hm,hh⟩:=hx
 injection hv with hv
 subst hv
 unfold maxLen at hm
 rcases hh with ⟨rfl,rfl⟩|⟨b,off,fps,hl,rfl,rfl,he⟩
 ·go_enter Tryz.func15,Tryz.ntmps15
  go_wp2
  go_loopw [1,5] (fun kk i wr=>i=.int .i64 0/\kk=.int .i64 k/\wr=w) (fun _ _ _=>0)
  case atStart=>exact ⟨rfl,rfl,rfl⟩
  case round =>
   obtain ⟨rfl,rfl,rfl⟩:=hrel
   go_wp2
   go_ret
   exact ⟨_,rfl,congrArg (Value.int .i64) (by simp),⟨ad,c,rfl,hlc,by unfold maxLen; omega,.inl ⟨rfl,rfl⟩⟩,Upto.refl _ _⟩
 have HN:=Lib.hid hn; have HF:=Lib.hid hf; have HE:=Lib.hid he; have HL:=Lib.hid hl; clear hn hf he hl
 go_enter Tryz.func15,Tryz.ntmps15
 go_wp2
 go_loopw [1,5] (fun kk i wr=>∃ j:Nat,j<=x.length/\i=.int .i64 j/\kk=.int .i64 (k+j)/\Elems Rp.int wr b off (mkIntS (x.take j) k++x.drop j) fps/\Upto (b :: fps.flatten) w wr) (fun _ i _=>x.length - (intOf i).toNat)
 case atStart=>exact ⟨0,Nat.zero_le _,rfl,congrArg (Value.int .i64) (by simp),by simpa [mkIntS] using HE.out,Upto.refl _ _⟩
 case round =>
  obtain ⟨j,hj,rfl,rfl,hE,hU⟩:=hrel
  have HEr:=Lib.hid hE; have HU:=Lib.hid hU; clear hE hU
  by_cases hjl:j < x.length
  rotate_left
  ·obtain rfl:j=x.length:=by omega
   go_wp2
   go_ret
   have h:=HEr.out
   rw [List.take_length,List.drop_length,List.append_nil] at h
   have hml:(mkIntS x k).length=x.length:=by simp [mkIntS]
   exact ⟨_,rfl,rfl,⟨_,c,by rw [hml],by rw [hml]; exact hlc,by unfold maxLen; omega,.inr ⟨b,off,fps,fun e=>HL.out (List.eq_nil_of_length_eq_zero (by rw [<-hml,e]; rfl)),rfl,rfl,h⟩⟩,HU.out⟩
  have hml:(mkIntS (x.take j) k).length=j:=by simp [mkIntS]; omega
  have hget:(mkIntS (x.take j) k++x.drop j)[j]? = some x[j]:=by rw [List.getElem?_append_right (by omega),hml]; simp
  obtain ⟨f,cs,hfj,hr,hcs⟩:=HEr.out.2 j _ hget
  obtain ⟨rfl,rfl,hI⟩:=hr
  have hfr:=HU.out.free b List.mem_cons_self (HF.out b List.mem_cons_self)
  have g0:wr.cell? ⟨b,off+j,none⟩=some (.int .i64 x[j]):=by simpa [Rp.int] using hcs 0 _ rfl
  have hfz:=hfr.frozen
  have HML:=Lib.hid hml; have HFJ:=Lib.hid hfj
  clear hml hget hcs hfj hfr
  go_wp2
  go_roundw
  case rel =>
   refine ⟨j+1,by omega,by go_num,congrArg (Value.int .i64) (by omega),?_,HU.out.setCell (p:=⟨b,off+j,none⟩) List.mem_cons_self _⟩
   have hup:=HEr.out.update (w':=wr.setCell ⟨b,off+j,none⟩ (.int .i64 (k+j))) (x':=k+(j:Nat)) (cs':=[.int .i64 (k+j)]) HN.out HFJ.out ⟨rfl,rfl,by constructor<;>omega⟩
    (cells_cons (by simpa [Rp.int] using World.cell?_setCell_same wr ⟨b,off+j,none⟩ (.int .i64 (k+j)) g0) cells_nil)
    (fun z _ hz _=>Below.heap_setCell _ _ _ _ hz) (fun o ho=>setCell_out _ (by simp [Rp.int] at ho; omega))
   have e:(mkIntS (x.take j) k++x.drop j).set j (k+(j:Nat))=mkIntS (x.take (j+1)) k++x.drop (j+1):=by
    rw [List.set_append_right _ _ (by rw [HML.out]; exact Nat.le_refl _),HML.out,Nat.sub_self,List.drop_eq_getElem_cons hjl,List.set_cons_zero,show mkIntS (x.take (j+1)) k=mkIntS (x.take j) k++[k+(j:Nat)] from by simp only [mkIntS,List.length_take,Nat.min_eq_left (Nat.le_of_lt hjl),Nat.min_eq_left (Nat.succ_le_of_lt hjl),List.range_succ,List.map_append]; rfl]
    simp
   rw [e] at hup
   exact hup
  case measure=>simp [intOf]; omega
set_option maxHeartbeats 400000 in
theorem heldIntS_any (v:Value) (x:DIntS) (k:Int) (w:World) (hx:Has RIntS w [v] (mkIntS x k)) (h0:0<=k) (h1:k+x.length<=1073741824) :
  Calls Tryz.prog 16 #[v,.int .i64 k] w (Post (HeldPost (k+x.length) w)):=by
 obtain ⟨ad,c,rfl,hc,hm,hg⟩:=hx.elems
 have hml:(mkIntS x k).length=x.length:=by simp [mkIntS]
 have hget:∀ j,j < x.length->∃ b off,ad=some ⟨b,off,none⟩/\b < w.heap.size/\w.cell? ⟨b,off+j,none⟩=some (.int .i64 (k+(j:Nat))):=by
  intro j hj
  obtain ⟨b,off,cs,ha,hb,hx,hcs⟩:=hg j (by omega)
  obtain ⟨c0,rfl⟩:=list1 hx.len
  have he:=hx.int.1
  refine ⟨b,off,ha,hb,?_⟩
  have h:=hcs 0 _ rfl
  rw [he] at h
  simpa [Rp.int,mkIntS] using h
 rw [hml] at hc ⊢
 unfold maxLen at hm
 have HG:=Lib.hid hget; clear hget hg hx hml
 go_enter Tryz.func16,Tryz.ntmps16
 go_wp2
 go_loopw [1,5] (fun kk i wr=>∃ j:Nat,j<=x.length/\i=.int .i64 j/\kk=.int .i64 (k+(j:Nat))/\Below w.heap.size w wr) (fun _ i _=>x.length - (intOf i).toNat)
 case atStart=>exact ⟨0,Nat.zero_le _,rfl,congrArg (Value.int .i64) (by simp),Below.refl _ _⟩
 case round =>
  obtain ⟨j,hj,rfl,rfl,hbw⟩:=hrel
  by_cases hjl:j < x.length
  rotate_left
  ·obtain rfl:j=x.length:=by omega
   go_wp2
   go_ret
   exact ⟨_,rfl,rfl,hbw⟩
  obtain ⟨b,off,rfl,hbl,hcell⟩:=HG.out j hjl
  have g0:wr.cell? ⟨b,off+j,none⟩=some (.int .i64 (k+(j:Nat))):=(hbw.cell (p:=⟨b,_,none⟩) hbl).trans hcell
  clear hcell
  go_wp2
  go_roundw
  case rel=>exact ⟨j+1,by omega,by go_num,congrArg (Value.int .i64) (by omega),hbw⟩
  case measure=>simp [intOf]; omega
end Go.Proofs.YtpdiggaapdhffaaGreat

namespace Go.Proofs.YtpdiggaapdhffaaGreat.DW
open Go.RowKit
theorem szIntS_fn (x:DIntS) (left:Int) (h0:0<=left) (h1:left<=1048576):Fn Tryz.prog 18 [⟨DW.tInts,x⟩,⟨.int,left⟩] false [⟨.int,szr left (x.length)⟩]:=by
 refine Fn.ofInt (enters Tryz.func18 rfl rfl) (szr_I64 h0 h1) fun w v cs hp hx=>?_
 obtain rfl:=pk_one rfl hp
 exact szIntS_any _ x left w hx h0 h1
theorem toIntS_fn (x:DIntS) (hs:x.length<=1048576):Fn Tryz.prog 25 [⟨DW.tInts,x⟩] true [⟨DW.tInts,x⟩]:=by
 refine Fn.ofOwn (enters Tryz.func25 rfl rfl) fun w v cs hp hx=>?_
 obtain rfl:=pk_one rfl hp
 exact (toIntS_any _ x w hx hs).mono fun e w' ⟨v,he,ho,hb⟩=>⟨v,he,⟨[v],.inr ⟨rfl,rfl⟩,ho⟩,hb⟩
theorem eqIntS_fn (x y:DIntS):Fn Tryz.prog 10 [⟨DW.tInts,x⟩,⟨DW.tInts,y⟩] false [⟨.bool,eqb x y⟩]:=by
 refine Fn.ofEq (enters Tryz.func10 rfl rfl) fun w v cs u ds hp hx hq hy=>?_
 obtain rfl:=pk_one rfl hp
 obtain rfl:=pk_one rfl hq
 exact eqIntS_any _ _ x y w hx hy
theorem markIntS_fn (x:DIntS) (k:Int) (h0:0<=k) (h1:k+x.length<=1073741824):FnM Tryz.prog 15 DW.tInts x (mkIntS x k) k (k+x.length):=by
 refine FnM.of (enters Tryz.func15 rfl rfl) (small_I64 (by omega) h1) fun w v cs fp hp hx hn hf=>?_
 obtain rfl:=pk_one rfl hp
 exact markIntS_any _ x k fp w hx hn hf h0 h1
theorem heldIntS_fn (x:DIntS) (k:Int) (h0:0<=k) (h1:k+x.length<=1073741824):Fn Tryz.prog 16 [⟨DW.tInts,mkIntS x k⟩,⟨.int,k⟩] false [⟨.int,k+x.length⟩]:=by
 refine Fn.ofInt (enters Tryz.func16 rfl rfl) (small_I64 (by omega) h1) fun w v cs hp hx=>?_
 obtain rfl:=pk_one rfl hp
 exact heldIntS_any _ x k w hx h0 h1
theorem szRat_fn (x:DRat) (left:Int) (h0:0<=left) (h1:left<=1048576):Fn Tryz.prog 106 [⟨DW.tRat,x⟩,⟨.int,left⟩] false [⟨.int,szr left (Go.Proofs.YtpdiggaapdhffaaGreat.tRat x)⟩]:=by
 refine Fn.ofInt (enters Tryz.func106 rfl rfl) (szr_I64 h0 h1) fun w v cs hp hx=>?_
 obtain rfl:=pk_agg rfl hp
 obtain ⟨c0,c1,c2,rfl⟩:=list3 hx.len
 exact szRat_any _ _ _ x left w hx h0 h1
theorem toRat_fn (x:DRat) (hs:Go.Proofs.YtpdiggaapdhffaaGreat.tRat x<=1048576):Fn Tryz.prog 109 [⟨DW.tRat,x⟩] true [⟨DW.tRat,x⟩]:=by
 refine Fn.ofOwn (enters Tryz.func109 rfl rfl) fun w v cs hp hx=>?_
 obtain rfl:=pk_agg rfl hp
 obtain ⟨c0,c1,c2,rfl⟩:=list3 hx.len
 exact (toRat_any _ _ _ x w hx hs).mono fun e w' ⟨v,he,⟨cs,hv,ho⟩,hb⟩=>⟨v,he,⟨cs,.inl ⟨rfl,hv⟩,ho⟩,hb⟩
theorem eqRat_fn (x y:DRat):Fn Tryz.prog 116 [⟨DW.tRat,x⟩,⟨DW.tRat,y⟩] false [⟨.bool,eqb x y⟩]:=by
 refine Fn.ofEq (enters Tryz.func116 rfl rfl) fun w v cs u ds hp hx hq hy=>?_
 obtain rfl:=pk_agg rfl hp
 obtain ⟨c0,c1,c2,rfl⟩:=list3 hx.len
 obtain rfl:=pk_agg rfl hq
 obtain ⟨d0,d1,d2,rfl⟩:=list3 hy.len
 exact eqRat_any _ _ _ _ _ _ x y w hx hy
@[go_sem] theorem mkBigInt_sc0 (x:DBigInt) (k:Int):(mkBigInt x k).1=x.1:=(rfl)
@[go_sem] theorem mkRat_sc0 (x:DRat) (k:Int):(mkRat x k).1.1=x.1.1:=(rfl)
@[go_sem] theorem mkPoint_sc0 (x:DPoint) (k:Int):(mkPoint x k).1.1.1=x.1.1.1:=(rfl)
@[go_sem] theorem mkPoint_sc1 (x:DPoint) (k:Int):(mkPoint x k).2.1.1=x.2.1.1:=(rfl)
@[go_sem] theorem mkPlacement_sc0 (x:DPlacement) (k:Int):(mkPlacement x k).1=x.1:=(rfl)
@[go_sem] theorem mkPlacement_sc1 (x:DPlacement) (k:Int):(mkPlacement x k).2.1.1.1=x.2.1.1.1:=(rfl)
@[go_sem] theorem mkPlacement_sc2 (x:DPlacement) (k:Int):(mkPlacement x k).2.2.1.1=x.2.2.1.1:=(rfl)
end Go.Proofs.YtpdiggaapdhffaaGreat.DW

namespace Go.Proofs.YtpdiggaapdhffaaGreat
open Go.RowKit
abbrev DVec:=Int × Int
abbrev RVec:Rp DVec:=Rp.prod Rp.int Rp.int
abbrev DVecS:=List DVec
abbrev RVecS:Rp DVecS:=Rp.slice RVec (by decide)
abbrev DTour:=DVecS × (DPlacement × DStepS)
theorem list9 {α:Type} {l:List α} (h:l.length=9):∃ c0 c1 c2 c3 c4 c5 c6 c7 c8,l=[c0,c1,c2,c3,c4,c5,c6,c7,c8]:=by
 match l,h with
 | [c0,c1,c2,c3,c4,c5,c6,c7,c8],_=>exact ⟨c0,c1,c2,c3,c4,c5,c6,c7,c8,rfl⟩
namespace DW
theorem szVecS_fn (x:DVecS) (left:Int) (h0:0<=left) (h1:left<=1048576):Fn Tryz.prog 20 [⟨.slice DW.tVec,x⟩,⟨.int,left⟩] false [⟨.int,szr left x.length⟩]:=by
 by_cases h:(x.length:Int)<=left
 ·rw [<-szr_ge h]
  have d:=decide_eq_false (p:=left - (x.length:Int) < 0) (by omega)
  refine fe Tryz.func20 Tryz.ntmps20 Tryz.results20 fun hwf=>?_
  have hl:x.length<=9223372036854775807:=(hwf ⟨.slice DW.tVec,x⟩ (by simp)).1
  try simp (maxSteps:=9^9) only[go_sem]
  repeat refine AI ?_
  try simp (maxSteps:=9^9) only[go_sem,d]
  all_goals repeat refine AI ?_
  all_goals first|kernel_rfl|omega|rfl
 ·rw [<-szr_lt (by omega)]
  have d:=decide_eq_true (p:=left - (x.length:Int) < 0) (by omega)
  refine fe Tryz.func20 Tryz.ntmps20 Tryz.results20 fun hwf=>?_
  have hl:x.length<=9223372036854775807:=(hwf ⟨.slice DW.tVec,x⟩ (by simp)).1
  try simp (maxSteps:=9^9) only[go_sem]
  repeat refine AI ?_
  try simp (maxSteps:=9^9) only[go_sem,d]
  all_goals repeat refine AI ?_
  all_goals first|kernel_rfl|omega|rfl
theorem toVec_fn (x:DVec):Fn Tryz.prog 27 [⟨DW.tVec,x⟩] false [⟨DW.tVec,x⟩]:=by
 refine fe Tryz.func27 Tryz.ntmps27 Tryz.results27 fun hwf=>?_
 try simp (maxSteps:=9^9) only[go_sem]
 all_goals repeat refine AI ?_
 all_goals first|kernel_rfl|omega|rfl
theorem toVecS_fn (x:DVecS) (hs:x.length<=1048576):Fn Tryz.prog 28 [⟨.slice DW.tVec,x⟩] true [⟨.slice DW.tVec,x⟩]:=by
 refine fe Tryz.func28 Tryz.ntmps28 Tryz.results28 fun hwf=>?_
 try simp (maxSteps:=9^9) only[go_sem]
 repeat refine AI ?_
 refine LoopG.intro _ _ _ (fun i:Nat=>⟨[(0,.sl DW.tVec x),(3,.row 0 0),(4,.sc (.int .i64 i))],[(0,.row 36 DW.tVec 0 true (x.take i++List.replicate (x.length - i) ((0:Int),(0:Int))))]⟩) (fun i=>i<=x.length) (fun i=>x.length - i) 0 ?_ (Nat.zero_le _) ?_
 ·exact WK
 ·rintro i hi
  have hlen:(x.take i++List.replicate (x.length - i) ((0:Int),(0:Int))).length=x.length:=by simp; omega
  try simp (maxSteps:=9^9) only[go_sem]
  refine CondW_dec (fun hA=>?_) (fun hA=>?_)
  ·have hset:(x.take i++List.replicate (x.length - i) ((0:Int),(0:Int))).set i (nth (t:=DW.tVec) x i)=x.take (i+1)++List.replicate (x.length - (i+1)) ((0:Int),(0:Int)):=by
    have hlt:i < x.length:=by omega
    rw [List.set_append_right _ _ (by rw [List.length_take]; omega),List.length_take,show i - min i x.length=0 by omega,show x.length - i=(x.length - (i+1))+1 by omega,List.replicate_succ,List.set_cons_zero,nth_lt hlt]
    have e:x.take (i+1)=x.take i++[x[i]]:=List.take_succ_eq_append_getElem hlt
    rw [e,List.append_assoc]; rfl
   have ht:(List.take i x).length=i:=by rw [List.length_take]; omega
   have c1:=toVec_fn (nth (t:=DW.tVec) x i)
   try simp (maxSteps:=9^9) only[go_sem]
   repeat refine AI ?_
   repeat refine AI ?_
   refine cw c1 ?_
   try simp (maxSteps:=9^9) only[go_sem]
   repeat refine AI ?_
   refine LoopK.mk (i+1) ?_ (by omega) (by omega)
   rw [<-hset]
   exact WK
  ·have:x.take i++List.replicate (x.length - i) ((0:Int),(0:Int))=x:=by
    rw [List.take_of_length_le (by omega),show x.length - i=0 by omega]; simp
   rw [this]
   try simp (maxSteps:=9^9) only[go_sem]
   all_goals repeat refine AI ?_
   all_goals first|kernel_rfl|omega|rfl
theorem eqVec_fn (x y:DVec):Fn Tryz.prog 34 [⟨DW.tVec,x⟩,⟨DW.tVec,y⟩] false [⟨.bool,eqb x y⟩]:=by
 by_cases h1:x.1=y.1
 ·have d1:=decide_eq_true h1
  by_cases h2:x.2=y.2
  ·have d2:=decide_eq_true h2
   rw [eqb_true (Prod.ext h1 h2)]
   refine fe Tryz.func34 Tryz.ntmps34 Tryz.results34 fun hwf=>?_
   try simp (maxSteps:=9^9) only[go_sem,d1,d2]
  ·have d2:=decide_eq_false h2
   rw [eqb_false (fun h=>h2 (by rw [h]))]
   refine fe Tryz.func34 Tryz.ntmps34 Tryz.results34 fun hwf=>?_
   try simp (maxSteps:=9^9) only[go_sem,d1,d2]
 ·have d1:=decide_eq_false h1
  rw [eqb_false (fun h=>h1 (by rw [h]))]
  refine fe Tryz.func34 Tryz.ntmps34 Tryz.results34 fun hwf=>?_
  try simp (maxSteps:=9^9) only[go_sem,d1]
theorem eqVecS_fn (x y:DVecS):Fn Tryz.prog 35 [⟨.slice DW.tVec,x⟩,⟨.slice DW.tVec,y⟩] false [⟨.bool,eqb x y⟩]:=by
 by_cases h0:(x.length:Int)=y.length
 ·have d0:=decide_eq_true h0
  refine fe Tryz.func35 Tryz.ntmps35 Tryz.results35 fun hwf=>?_
  have hl:x.length<=9223372036854775807:=(hwf ⟨.slice DW.tVec,x⟩ (by simp)).1
  try simp (maxSteps:=9^9) only[go_sem,d0]
  refine LoopG.intro _ _ _ (fun i:Nat=>⟨[(0,.sl DW.tVec x),(1,.sl DW.tVec y),(5,.sc (.int .i64 i))],[]⟩) (fun i=>∀ j,j < i->j < x.length->nth (t:=DW.tVec) x j=nth (t:=DW.tVec) y j) (fun i=>x.length - i) 0 ?_ (fun j h=>absurd h (Nat.not_lt_zero _)) ?_
  ·exact WK
  ·rintro i hi
   try simp (maxSteps:=9^9) only[go_sem]
   refine CondW_dec (fun hA=>?_) (fun hA=>?_)
   ·have c1:=eqVec_fn (nth (t:=DW.tVec) x i) (nth (t:=DW.tVec) y i)
    by_cases e:nth (t:=DW.tVec) x i=nth (t:=DW.tVec) y i
    ·rw [eqb_true e] at c1
     try simp (maxSteps:=9^9) only[go_sem]
     repeat refine AI ?_
     repeat refine AI ?_
     refine cw c1 ?_
     try simp (maxSteps:=9^9) only[go_sem]
     repeat refine AI ?_
     refine LoopK.mk (i+1) ?_ (fun j h1 h2=>?_) (by omega)
     ·exact WK
     ·by_cases h3:j < i
      ·exact hi j h3 h2
      ·rw [show j=i by omega]; exact e
    ·rw [eqb_false e] at c1
     rw [eqb_false (fun h=>e (by rw [h]))]
     try simp (maxSteps:=9^9) only[go_sem]
     repeat refine AI ?_
     repeat refine AI ?_
     refine cw c1 ?_
     try simp (maxSteps:=9^9) only[go_sem]
     all_goals repeat refine AI ?_
     all_goals first|kernel_rfl|omega|rfl
   ·have:x=y:=by
     refine List.ext_getElem (by omega) fun j h1 h2=>?_
     have:=hi j (by omega) h1
     rwa [nth_lt h1,nth_lt h2] at this
    rw [eqb_true this]
    try simp (maxSteps:=9^9) only[go_sem]
 ·have d0:=decide_eq_false h0
  rw [eqb_false (fun h=>h0 (by rw [h]))]
  refine fe Tryz.func35 Tryz.ntmps35 Tryz.results35 fun hwf=>?_
  try simp (maxSteps:=9^9) only[go_sem,d0]
end DW
end Go.Proofs.YtpdiggaapdhffaaGreat

namespace Go.Proofs.YtpdiggaapdhffaaGreat.DW
open Go.RowKit
@[go_sem] theorem bts_VecS:bts Tryz.prog 37=some 24:=by kernel_rfl
end Go.Proofs.YtpdiggaapdhffaaGreat.DW

namespace Go.Proofs.YtpdiggaapdhffaaGreat
open Go.RowKit
abbrev DVecSS:=List DVecS
abbrev RVecSS:Rp DVecSS:=Rp.slice RVecS (by decide)
abbrev DScene:=DVec × (DVec × (DVecS × (DVecSS × DVecS)))
abbrev RScene:Rp DScene:=Rp.prod RVec (Rp.prod RVec (Rp.prod RVecS (Rp.prod RVecSS RVecS)))
def tVecSS:DVecSS->Nat
 | []=>0
 | x :: l=>x.length+tVecSS l
theorem tVecSS_snoc (l:DVecSS) (x:DVecS):tVecSS (l++[x])=tVecSS l+x.length:=by
 induction l with
 | nil=>simp [tVecSS]
 | cons y l ih=>simp [tVecSS,ih]; omega
theorem tVecSS_take (l:DVecSS) (k:Nat):tVecSS (l.take k)<=tVecSS l:=by
 induction l generalizing k with
 | nil=>simp [tVecSS]
 | cons y l ih=>cases k with
  | zero=>simp [tVecSS]
  | succ k=>have:=ih k; simp [tVecSS]; omega
theorem tVecSS_mem {l:DVecSS} {i:Nat} (h:i < l.length):l[i].length<=tVecSS l:=by
 have h1:=tVecSS_take l (i+1)
 rw [List.take_succ_eq_append_getElem h,tVecSS_snoc] at h1
 omega
def tScene (x:DScene):Nat:=x.2.2.1.length+((x.2.2.2.1.length+tVecSS x.2.2.2.1)+x.2.2.2.2.length)
namespace DW
theorem szVecSS_fn (x:DVecSS) (left:Int) (h0:0<=left) (h1:left<=1048576):Fn Tryz.prog 21 [⟨.slice (.slice DW.tVec),x⟩,⟨.int,left⟩] false [⟨.int,szr left (x.length+Go.Proofs.YtpdiggaapdhffaaGreat.tVecSS x)⟩]:=by
 by_cases h:left - (x.length:Int) < 0
 ·rw [<-szr_lt (by omega)]
  have d:=decide_eq_true h
  refine fe Tryz.func21 Tryz.ntmps21 Tryz.results21 fun hwf=>?_
  have hl:x.length<=9223372036854775807:=(hwf ⟨.slice (.slice DW.tVec),x⟩ (by simp)).1
  try simp (maxSteps:=9^9) only[go_sem]
  repeat refine AI ?_
  try simp (maxSteps:=9^9) only[go_sem,d]
  all_goals repeat refine AI ?_
  all_goals first|kernel_rfl|omega|rfl
 ·have d:=decide_eq_false h
  have hr0:=szr_lo left (x.length+Go.Proofs.YtpdiggaapdhffaaGreat.tVecSS x) h0
  refine fe Tryz.func21 Tryz.ntmps21 Tryz.results21 fun hwf=>?_
  have hl:x.length<=9223372036854775807:=(hwf ⟨.slice (.slice DW.tVec),x⟩ (by simp)).1
  try simp (maxSteps:=9^9) only[go_sem]
  repeat refine AI ?_
  try simp (maxSteps:=9^9) only[go_sem,d]
  refine LoopG.intro _ _ _ (fun i:Nat=>⟨[(0,.sl (.slice DW.tVec) x),(1,.sc (.int .i64 (szr left (x.length+Go.Proofs.YtpdiggaapdhffaaGreat.tVecSS (x.take i))))),(5,.sc (.int .i64 i))],[]⟩) (fun i=>i<=x.length/\0<=szr left (x.length+Go.Proofs.YtpdiggaapdhffaaGreat.tVecSS (x.take i))) (fun i=>x.length - i) 0 ?_ ⟨Nat.zero_le _,by
   have e:szr left (x.length+Go.Proofs.YtpdiggaapdhffaaGreat.tVecSS (x.take 0))=left - x.length:=by simp [Go.Proofs.YtpdiggaapdhffaaGreat.tVecSS]; exact (szr_ge (by omega)).symm
   rw [e]; omega⟩ ?_
  ·have e:szr left (x.length+Go.Proofs.YtpdiggaapdhffaaGreat.tVecSS (x.take 0))=left - x.length:=by simp [Go.Proofs.YtpdiggaapdhffaaGreat.tVecSS]; exact (szr_ge (by omega)).symm
   rw [e]
   exact WK
  ·rintro i ⟨hi,hle⟩
   have hr1:=szr_lo left (x.length+Go.Proofs.YtpdiggaapdhffaaGreat.tVecSS (x.take i)) h0
   try simp (maxSteps:=9^9) only[go_sem]
   refine CondW_dec (fun hA=>?_) (fun hA=>?_)
   ·have hlt:i < x.length:=by omega
    have hts:Go.Proofs.YtpdiggaapdhffaaGreat.tVecSS (x.take i)+x[i].length=Go.Proofs.YtpdiggaapdhffaaGreat.tVecSS (x.take (i+1)):=by rw [List.take_succ_eq_append_getElem hlt,tVecSS_snoc]
    have c1:=szVecS_fn (nth (t:=(.slice DW.tVec)) x i) (szr left (x.length+Go.Proofs.YtpdiggaapdhffaaGreat.tVecSS (x.take i))) hle (by omega)
    rw [nth_lt hlt,szr_add _ _ _ hle,Nat.add_assoc,hts] at c1
    rw [<-nth_lt (t:=(.slice DW.tVec)) hlt] at c1
    have hr2:=szr_lo left (x.length+Go.Proofs.YtpdiggaapdhffaaGreat.tVecSS (x.take (i+1))) h0
    by_cases e1:szr left (x.length+Go.Proofs.YtpdiggaapdhffaaGreat.tVecSS (x.take (i+1))) < 0
    ·have d1:=decide_eq_true e1
     have hf:=szr_fail e1 (b:=x.length+Go.Proofs.YtpdiggaapdhffaaGreat.tVecSS x) (Nat.add_le_add_left (tVecSS_take x (i+1)) _)
     rw [<-hf]
     try simp (maxSteps:=9^9) only[go_sem]
     repeat refine AI ?_
     repeat refine AI ?_
     refine cw c1 ?_
     try simp (maxSteps:=9^9) only[go_sem]
     try simp (maxSteps:=9^9) only[go_sem,d1]
     all_goals repeat refine AI ?_
     all_goals first|kernel_rfl|omega|rfl
    ·have d1:=decide_eq_false e1
     try simp (maxSteps:=9^9) only[go_sem]
     repeat refine AI ?_
     repeat refine AI ?_
     refine cw c1 ?_
     try simp (maxSteps:=9^9) only[go_sem]
     try simp (maxSteps:=9^9) only[go_sem,d1]
     repeat refine AI ?_
     refine LoopK.mk (i+1) ?_ ⟨by omega,by omega⟩ (by omega)
     exact WK
   ·have hi2:i=x.length:=by omega
    subst hi2
    rw [List.take_length] at hr1 ⊢
    try simp (maxSteps:=9^9) only[go_sem]
    all_goals repeat refine AI ?_
    all_goals first|kernel_rfl|omega|rfl
theorem toVecSS_fn (x:DVecSS) (hs:x.length+Go.Proofs.YtpdiggaapdhffaaGreat.tVecSS x<=1048576):Fn Tryz.prog 29 [⟨.slice (.slice DW.tVec),x⟩] true [⟨.slice (.slice DW.tVec),x⟩]:=by
 refine fe Tryz.func29 Tryz.ntmps29 Tryz.results29 fun hwf=>?_
 try simp (maxSteps:=9^9) only[go_sem]
 repeat refine AI ?_
 refine LoopG.intro _ _ _ (fun i:Nat=>⟨[(0,.sl (.slice DW.tVec) x),(3,.row 0 0),(4,.sc (.int .i64 i))],[(0,.row 37 (.slice DW.tVec) 0 true (x.take i++List.replicate (x.length - i) ([]:DVecS)))]⟩) (fun i=>i<=x.length) (fun i=>x.length - i) 0 ?_ (Nat.zero_le _) ?_
 ·exact WK
 ·rintro i hi
  have hlen:(x.take i++List.replicate (x.length - i) ([]:DVecS)).length=x.length:=by simp; omega
  try simp (maxSteps:=9^9) only[go_sem]
  refine CondW_dec (fun hA=>?_) (fun hA=>?_)
  ·have hlt:i < x.length:=by omega
   have hset:(x.take i++List.replicate (x.length - i) ([]:DVecS)).set i (nth (t:=(.slice DW.tVec)) x i)=x.take (i+1)++List.replicate (x.length - (i+1)) ([]:DVecS):=by
    rw [List.set_append_right _ _ (by rw [List.length_take]; omega),List.length_take,show i - min i x.length=0 by omega,show x.length - i=(x.length - (i+1))+1 by omega,List.replicate_succ,List.set_cons_zero,nth_lt hlt]
    have e:x.take (i+1)=x.take i++[x[i]]:=List.take_succ_eq_append_getElem hlt
    rw [e,List.append_assoc]; rfl
   have ht:(List.take i x).length=i:=by rw [List.length_take]; omega
   have c1:=toVecS_fn (nth (t:=(.slice DW.tVec)) x i) (by rw [nth_lt hlt]; have:=tVecSS_mem hlt; omega)
   try simp (maxSteps:=9^9) only[go_sem]
   repeat refine AI ?_
   repeat refine AI ?_
   refine cw c1 ?_
   try simp (maxSteps:=9^9) only[go_sem]
   repeat refine AI ?_
   refine LoopK.mk (i+1) ?_ (by omega) (by omega)
   rw [<-hset]
   exact WK
  ·have:x.take i++List.replicate (x.length - i) ([]:DVecS)=x:=by
    rw [List.take_of_length_le (by omega),show x.length - i=0 by omega]; simp
   rw [this]
   try simp (maxSteps:=9^9) only[go_sem]
   all_goals repeat refine AI ?_
   all_goals first|kernel_rfl|omega|rfl
theorem eqVecSS_fn (x y:DVecSS):Fn Tryz.prog 36 [⟨.slice (.slice DW.tVec),x⟩,⟨.slice (.slice DW.tVec),y⟩] false [⟨.bool,eqb x y⟩]:=by
 by_cases h0:(x.length:Int)=y.length
 ·have d0:=decide_eq_true h0
  refine fe Tryz.func36 Tryz.ntmps36 Tryz.results36 fun hwf=>?_
  have hl:x.length<=9223372036854775807:=(hwf ⟨.slice (.slice DW.tVec),x⟩ (by simp)).1
  try simp (maxSteps:=9^9) only[go_sem,d0]
  refine LoopG.intro _ _ _ (fun i:Nat=>⟨[(0,.sl (.slice DW.tVec) x),(1,.sl (.slice DW.tVec) y),(5,.sc (.int .i64 i))],[]⟩) (fun i=>∀ j,j < i->j < x.length->nth (t:=(.slice DW.tVec)) x j=nth (t:=(.slice DW.tVec)) y j) (fun i=>x.length - i) 0 ?_ (fun j h=>absurd h (Nat.not_lt_zero _)) ?_
  ·exact WK
  ·rintro i hi
   try simp (maxSteps:=9^9) only[go_sem]
   refine CondW_dec (fun hA=>?_) (fun hA=>?_)
   ·have c1:=eqVecS_fn (nth (t:=(.slice DW.tVec)) x i) (nth (t:=(.slice DW.tVec)) y i)
    by_cases e:nth (t:=(.slice DW.tVec)) x i=nth (t:=(.slice DW.tVec)) y i
    ·rw [eqb_true e] at c1
     try simp (maxSteps:=9^9) only[go_sem]
     repeat refine AI ?_
     repeat refine AI ?_
     refine cw c1 ?_
     try simp (maxSteps:=9^9) only[go_sem]
     repeat refine AI ?_
     refine LoopK.mk (i+1) ?_ (fun j h1 h2=>?_) (by omega)
     ·exact WK
     ·by_cases h3:j < i
      ·exact hi j h3 h2
      ·rw [show j=i by omega]; exact e
    ·rw [eqb_false e] at c1
     rw [eqb_false (fun h=>e (by rw [h]))]
     try simp (maxSteps:=9^9) only[go_sem]
     repeat refine AI ?_
     repeat refine AI ?_
     refine cw c1 ?_
     try simp (maxSteps:=9^9) only[go_sem]
     all_goals repeat refine AI ?_
     all_goals first|kernel_rfl|omega|rfl
   ·have:x=y:=by
     refine List.ext_getElem (by omega) fun j h1 h2=>?_
     have:=hi j (by omega) h1
     rwa [nth_lt h1,nth_lt h2] at this
    rw [eqb_true this]
    try simp (maxSteps:=9^9) only[go_sem]
 ·have d0:=decide_eq_false h0
  rw [eqb_false (fun h=>h0 (by rw [h]))]
  refine fe Tryz.func36 Tryz.ntmps36 Tryz.results36 fun hwf=>?_
  try simp (maxSteps:=9^9) only[go_sem,d0]
theorem szScene_fn (x:DScene) (left:Int) (h0:0<=left) (h1:left<=1048576):Fn Tryz.prog 5 [⟨DW.tScene,x⟩,⟨.int,left⟩] false [⟨.int,szr left (Go.Proofs.YtpdiggaapdhffaaGreat.tScene x)⟩]:=by
 obtain ⟨⟨a1,a2⟩,⟨b1,b2⟩,r,p,l⟩:=x
 have c1:=szVecS_fn r left h0 h1
 have r1:=szr_lo left r.length h0
 have hT:Go.Proofs.YtpdiggaapdhffaaGreat.tScene ((a1,a2),(b1,b2),r,p,l)=r.length+((p.length+Go.Proofs.YtpdiggaapdhffaaGreat.tVecSS p)+l.length):=rfl
 by_cases e1:szr left r.length < 0
 ·have d1:=decide_eq_true e1
  rw [<-szr_fail e1 (b:=Go.Proofs.YtpdiggaapdhffaaGreat.tScene ((a1,a2),(b1,b2),r,p,l)) (by omega)]
  refine fe Tryz.func5 Tryz.ntmps5 Tryz.results5 fun hwf=>?_
  try simp (maxSteps:=9^9) only[go_sem]
  repeat refine AI ?_
  repeat refine AI ?_
  refine cw c1 ?_
  try simp (maxSteps:=9^9) only[go_sem]
  try simp (maxSteps:=9^9) only[go_sem,d1]
  all_goals repeat refine AI ?_
  all_goals first|kernel_rfl|omega|rfl
 ·have d1:=decide_eq_false e1
  have c2:=szVecSS_fn p (szr left r.length) (by omega) (by omega)
  have r2:=szr_lo (szr left r.length) (p.length+Go.Proofs.YtpdiggaapdhffaaGreat.tVecSS p) (by omega)
  have a2':=szr_add left r.length (p.length+Go.Proofs.YtpdiggaapdhffaaGreat.tVecSS p) (by omega)
  by_cases e2:szr (szr left r.length) (p.length+Go.Proofs.YtpdiggaapdhffaaGreat.tVecSS p) < 0
  ·have d2:=decide_eq_true e2
   rw [<-szr_fail (by rw [<-a2']; exact e2) (a:=r.length+(p.length+Go.Proofs.YtpdiggaapdhffaaGreat.tVecSS p)) (b:=Go.Proofs.YtpdiggaapdhffaaGreat.tScene ((a1,a2),(b1,b2),r,p,l)) (by omega)]
   refine fe Tryz.func5 Tryz.ntmps5 Tryz.results5 fun hwf=>?_
   try simp (maxSteps:=9^9) only[go_sem]
   repeat refine AI ?_
   repeat refine AI ?_
   refine cw c1 ?_
   try simp (maxSteps:=9^9) only[go_sem]
   try simp (maxSteps:=9^9) only[go_sem,d1]
   repeat refine AI ?_
   repeat refine AI ?_
   refine cw c2 ?_
   try simp (maxSteps:=9^9) only[go_sem]
   try simp (maxSteps:=9^9) only[go_sem,d2]
   all_goals repeat refine AI ?_
   all_goals first|kernel_rfl|omega|rfl
  ·have d2:=decide_eq_false e2
   have c3:=szVecS_fn l (szr (szr left r.length) (p.length+Go.Proofs.YtpdiggaapdhffaaGreat.tVecSS p)) (by omega) (by omega)
   have r3:=szr_lo (szr (szr left r.length) (p.length+Go.Proofs.YtpdiggaapdhffaaGreat.tVecSS p)) l.length (by omega)
   have a3:=szr_add left (r.length+(p.length+Go.Proofs.YtpdiggaapdhffaaGreat.tVecSS p)) l.length (by rw [<-a2']; omega)
   rw [<-a2'] at a3
   rw [hT,<-Nat.add_assoc,<-a3]
   by_cases e3:szr (szr (szr left r.length) (p.length+Go.Proofs.YtpdiggaapdhffaaGreat.tVecSS p)) l.length < 0
   ·have d3:=decide_eq_true e3
    have e4:szr (szr (szr left r.length) (p.length+Go.Proofs.YtpdiggaapdhffaaGreat.tVecSS p)) l.length=-1:=by omega
    rw [e4] at d3 c3 ⊢
    refine fe Tryz.func5 Tryz.ntmps5 Tryz.results5 fun hwf=>?_
    try simp (maxSteps:=9^9) only[go_sem]
    repeat refine AI ?_
    repeat refine AI ?_
    refine cw c1 ?_
    try simp (maxSteps:=9^9) only[go_sem]
    try simp (maxSteps:=9^9) only[go_sem,d1]
    repeat refine AI ?_
    repeat refine AI ?_
    refine cw c2 ?_
    try simp (maxSteps:=9^9) only[go_sem]
    try simp (maxSteps:=9^9) only[go_sem,d2]
    repeat refine AI ?_
    repeat refine AI ?_
    refine cw c3 ?_
    try simp (maxSteps:=9^9) only[go_sem]
    try simp (maxSteps:=9^9) only[go_sem,d3]
    all_goals repeat refine AI ?_
    all_goals first|kernel_rfl|omega|rfl
   ·have d3:=decide_eq_false e3
    refine fe Tryz.func5 Tryz.ntmps5 Tryz.results5 fun hwf=>?_
    try simp (maxSteps:=9^9) only[go_sem]
    repeat refine AI ?_
    repeat refine AI ?_
    refine cw c1 ?_
    try simp (maxSteps:=9^9) only[go_sem]
    try simp (maxSteps:=9^9) only[go_sem,d1]
    repeat refine AI ?_
    repeat refine AI ?_
    refine cw c2 ?_
    try simp (maxSteps:=9^9) only[go_sem]
    try simp (maxSteps:=9^9) only[go_sem,d2]
    repeat refine AI ?_
    repeat refine AI ?_
    refine cw c3 ?_
    try simp (maxSteps:=9^9) only[go_sem]
    try simp (maxSteps:=9^9) only[go_sem,d3]
    all_goals repeat refine AI ?_
    all_goals first|kernel_rfl|omega|rfl
theorem toScene_fn (x:DScene) (hs:Go.Proofs.YtpdiggaapdhffaaGreat.tScene x<=1048576):Fn Tryz.prog 8 [⟨DW.tScene,x⟩] true [⟨DW.tScene,x⟩]:=by
 obtain ⟨⟨a1,a2⟩,⟨b1,b2⟩,r,p,l⟩:=x
 have hT:Go.Proofs.YtpdiggaapdhffaaGreat.tScene ((a1,a2),(b1,b2),r,p,l)=r.length+((p.length+Go.Proofs.YtpdiggaapdhffaaGreat.tVecSS p)+l.length):=rfl
 have c1:=toVec_fn (a1,a2)
 have c2:=toVec_fn (b1,b2)
 have c3:=toVecS_fn r (by omega)
 have c4:=toVecSS_fn p (by omega)
 have c5:=toVecS_fn l (by omega)
 refine fe Tryz.func8 Tryz.ntmps8 Tryz.results8 fun hwf=>?_
 try simp (maxSteps:=9^9) only[go_sem]
 repeat refine AI ?_
 repeat refine AI ?_
 refine cw c1 ?_
 try simp (maxSteps:=9^9) only[go_sem]
 repeat refine AI ?_
 repeat refine AI ?_
 refine cw c2 ?_
 try simp (maxSteps:=9^9) only[go_sem]
 repeat refine AI ?_
 repeat refine AI ?_
 refine cw c3 ?_
 try simp (maxSteps:=9^9) only[go_sem]
 repeat refine AI ?_
 repeat refine AI ?_
 refine cw c4 ?_
 try simp (maxSteps:=9^9) only[go_sem]
 repeat refine AI ?_
 repeat refine AI ?_
 refine cw c5 ?_
 try simp (maxSteps:=9^9) only[go_sem]
 all_goals repeat refine AI ?_
 all_goals first|kernel_rfl|omega|rfl
theorem eqScene_fn (x y:DScene):Fn Tryz.prog 12 [⟨DW.tScene,x⟩,⟨DW.tScene,y⟩] false [⟨.bool,eqb x y⟩]:=by
 obtain ⟨a,b,r,p,l⟩:=x
 obtain ⟨a',b',r',p',l'⟩:=y
 have c1:=eqVec_fn a a'
 have c2:=eqVec_fn b b'
 have c3:=eqVecS_fn r r'
 have c4:=eqVecSS_fn p p'
 have c5:=eqVecS_fn l l'
 by_cases e1:a=a'
 rotate_left
 ·rw [eqb_false e1] at c1
  rw [eqb_false (fun h=>e1 (congrArg (fun z=>z.1) h))]
  refine fe Tryz.func12 Tryz.ntmps12 Tryz.results12 fun hwf=>?_
  try simp (maxSteps:=9^9) only[go_sem]
  repeat refine AI ?_
  repeat refine AI ?_
  refine cw c1 ?_
  try simp (maxSteps:=9^9) only[go_sem]
  all_goals repeat refine AI ?_
  all_goals first|kernel_rfl|omega|rfl
 rw [eqb_true e1] at c1
 by_cases e2:b=b'
 rotate_left
 ·rw [eqb_false e2] at c2
  rw [eqb_false (fun h=>e2 (congrArg (fun z=>z.2.1) h))]
  refine fe Tryz.func12 Tryz.ntmps12 Tryz.results12 fun hwf=>?_
  try simp (maxSteps:=9^9) only[go_sem]
  repeat refine AI ?_
  repeat refine AI ?_
  refine cw c1 ?_
  try simp (maxSteps:=9^9) only[go_sem]
  repeat refine AI ?_
  repeat refine AI ?_
  refine cw c2 ?_
  try simp (maxSteps:=9^9) only[go_sem]
  all_goals repeat refine AI ?_
  all_goals first|kernel_rfl|omega|rfl
 rw [eqb_true e2] at c2
 by_cases e3:r=r'
 rotate_left
 ·rw [eqb_false e3] at c3
  rw [eqb_false (fun h=>e3 (congrArg (fun z=>z.2.2.1) h))]
  refine fe Tryz.func12 Tryz.ntmps12 Tryz.results12 fun hwf=>?_
  try simp (maxSteps:=9^9) only[go_sem]
  repeat refine AI ?_
  repeat refine AI ?_
  refine cw c1 ?_
  try simp (maxSteps:=9^9) only[go_sem]
  repeat refine AI ?_
  repeat refine AI ?_
  refine cw c2 ?_
  try simp (maxSteps:=9^9) only[go_sem]
  repeat refine AI ?_
  repeat refine AI ?_
  refine cw c3 ?_
  try simp (maxSteps:=9^9) only[go_sem]
  all_goals repeat refine AI ?_
  all_goals first|kernel_rfl|omega|rfl
 rw [eqb_true e3] at c3
 by_cases e4:p=p'
 rotate_left
 ·rw [eqb_false e4] at c4
  rw [eqb_false (fun h=>e4 (congrArg (fun z=>z.2.2.2.1) h))]
  refine fe Tryz.func12 Tryz.ntmps12 Tryz.results12 fun hwf=>?_
  try simp (maxSteps:=9^9) only[go_sem]
  repeat refine AI ?_
  repeat refine AI ?_
  refine cw c1 ?_
  try simp (maxSteps:=9^9) only[go_sem]
  repeat refine AI ?_
  repeat refine AI ?_
  refine cw c2 ?_
  try simp (maxSteps:=9^9) only[go_sem]
  repeat refine AI ?_
  repeat refine AI ?_
  refine cw c3 ?_
  try simp (maxSteps:=9^9) only[go_sem]
  repeat refine AI ?_
  repeat refine AI ?_
  refine cw c4 ?_
  try simp (maxSteps:=9^9) only[go_sem]
  all_goals repeat refine AI ?_
  all_goals first|kernel_rfl|omega|rfl
 rw [eqb_true e4] at c4
 by_cases e5:l=l'
 rotate_left
 ·rw [eqb_false e5] at c5
  rw [eqb_false (fun h=>e5 (congrArg (fun z=>z.2.2.2.2) h))]
  refine fe Tryz.func12 Tryz.ntmps12 Tryz.results12 fun hwf=>?_
  try simp (maxSteps:=9^9) only[go_sem]
  repeat refine AI ?_
  repeat refine AI ?_
  refine cw c1 ?_
  try simp (maxSteps:=9^9) only[go_sem]
  repeat refine AI ?_
  repeat refine AI ?_
  refine cw c2 ?_
  try simp (maxSteps:=9^9) only[go_sem]
  repeat refine AI ?_
  repeat refine AI ?_
  refine cw c3 ?_
  try simp (maxSteps:=9^9) only[go_sem]
  repeat refine AI ?_
  repeat refine AI ?_
  refine cw c4 ?_
  try simp (maxSteps:=9^9) only[go_sem]
  repeat refine AI ?_
  repeat refine AI ?_
  refine cw c5 ?_
  try simp (maxSteps:=9^9) only[go_sem]
  all_goals repeat refine AI ?_
  all_goals first|kernel_rfl|omega|rfl
 rw [eqb_true e5] at c5
 rw [eqb_true (by rw [e1,e2,e3,e4,e5])]
 refine fe Tryz.func12 Tryz.ntmps12 Tryz.results12 fun hwf=>?_
 try simp (maxSteps:=9^9) only[go_sem]
 repeat refine AI ?_
 repeat refine AI ?_
 refine cw c1 ?_
 try simp (maxSteps:=9^9) only[go_sem]
 repeat refine AI ?_
 repeat refine AI ?_
 refine cw c2 ?_
 try simp (maxSteps:=9^9) only[go_sem]
 repeat refine AI ?_
 repeat refine AI ?_
 refine cw c3 ?_
 try simp (maxSteps:=9^9) only[go_sem]
 repeat refine AI ?_
 repeat refine AI ?_
 refine cw c4 ?_
 try simp (maxSteps:=9^9) only[go_sem]
 repeat refine AI ?_
 repeat refine AI ?_
 refine cw c5 ?_
 try simp (maxSteps:=9^9) only[go_sem]
 all_goals repeat refine AI ?_
 all_goals first|kernel_rfl|omega|rfl
end DW
end Go.Proofs.YtpdiggaapdhffaaGreat

namespace Go.Proofs.YtpdiggaapdhffaaGreat.DW
open Go.RowKit
theorem boxEq_Box:boxEq Tryz.prog 60:=by
 refine ⟨by kernel_rfl,fun w a b a2 b2 c d c2 d2=>?_⟩
 have hv:vecTy Tryz.prog 36=true:=by kernel_rfl
 have hp:Tryz.prog.stoodInHeld 60=false:=by kernel_rfl
 have hu:=Tryz.underlying60
 rw [show (10000:Nat)=9997+1+1+1 from rfl,run_equalIn_agg w _ 60 _ _ (by simp [Program.fieldsOf,hu]) hp]
 have q:=fun n w a b c d=>vec_eq_at (P:=Tryz.prog) hv n w a b c d
 have ag:∀ w,(isAgg 36).run Tryz.prog w=.ok true w:=Tryz.isAgg36
 have sz:∀ w,(Go.sizeOf 36).run Tryz.prog w=.ok 2 w:=Tryz.sizeOf36
 generalize 9997=n
 by_cases e1:a=c<;>by_cases e2:b=d<;>by_cases e3:a2=c2<;>by_cases e4:b2=d2<;>simp [Program.fieldsOf,hu,Op.eqFields,part,ag,sz,q,e1,e2,e3,e4]
@[go_sem] theorem boxEq_T:boxEq Tryz.prog 60=True:=eq_true boxEq_Box
set_option maxHeartbeats 1000000 in
theorem eqVecs_fn (a b:List DV):Fn Tryz.prog 99 [⟨.slice tVec,a⟩,⟨.slice tVec,b⟩] false [⟨.bool,eqb a b⟩]:=by
 by_cases h0:(a.length:Int)=b.length
 ·have d0:=decide_eq_true h0
  refine fe Tryz.func99 Tryz.ntmps99 Tryz.results99 fun hwf=>?_
  have hl:a.length<=9223372036854775807:=(hwf ⟨.slice tVec,a⟩ (by simp)).1
  try simp (maxSteps:=9^9) only[go_sem,d0]
  refine LoopG.intro _ _ _ (fun i:Nat=>⟨[(0,.sl tVec a),(1,.sl tVec b),(12,.sc (.int .i64 a.length)),(13,.sc (.int .i64 i))],[]⟩) (fun i=>∀ j,j < i->j < a.length->nth (t:=tVec) a j=nth (t:=tVec) b j) (fun i=>a.length - i) 0 ?_ (fun j h=>absurd h (Nat.not_lt_zero _)) ?_
  ·exact WK
  ·rintro i hi
   try simp (maxSteps:=9^9) only[go_sem]
   refine CondW_dec (fun hA=>?_) (fun hA=>?_)
   ·by_cases e:nth (t:=tVec) a i=nth (t:=tVec) b i
    ·have d1:(decide ((nth (t:=tVec) a i).1=(nth (t:=tVec) b i).1) && decide ((nth (t:=tVec) a i).2=(nth (t:=tVec) b i).2))=true:=by rw [e]; simp
     try simp (maxSteps:=9^9) only[go_sem,d1]
     repeat refine AI ?_
     try simp (maxSteps:=9^9) only[go_sem,d1]
     repeat refine AI ?_
     refine LoopK.mk (i+1) ?_ (fun j h1 h2=>?_) (by omega)
     ·exact WK
     ·by_cases h3:j < i
      ·exact hi j h3 h2
      ·rw [show j=i by omega]; exact e
    ·have d1:(decide ((nth (t:=tVec) a i).1=(nth (t:=tVec) b i).1) && decide ((nth (t:=tVec) a i).2=(nth (t:=tVec) b i).2))=false:=by
      rw [Bool.eq_false_iff]
      intro h
      rw [Bool.and_eq_true,decide_eq_true_eq,decide_eq_true_eq] at h
      exact e (Prod.ext h.1 h.2)
     rw [eqb_false (fun h=>e (by rw [h]))]
     try simp (maxSteps:=9^9) only[go_sem,d1]
     repeat refine AI ?_
     try simp (maxSteps:=9^9) only[go_sem,d1]
     all_goals repeat refine AI ?_
     all_goals first|kernel_rfl|omega|rfl
   ·have:a=b:=by
     refine List.ext_getElem (by omega) fun j h1 h2=>?_
     have:=hi j (by omega) h1
     rwa [nth_lt h1,nth_lt h2] at this
    rw [eqb_true this]
    try simp (maxSteps:=9^9) only[go_sem]
 ·have d0:=decide_eq_false h0
  rw [eqb_false (fun h=>h0 (by rw [h]))]
  refine fe Tryz.func99 Tryz.ntmps99 Tryz.results99 fun hwf=>?_
  try simp (maxSteps:=9^9) only[go_sem,d0]
set_option maxHeartbeats 1000000 in
theorem l10Same_fn (a b:List DV):Fn Tryz.prog 46 [⟨.slice tVec,a⟩,⟨.slice tVec,b⟩] false [⟨.bool,eqb a b⟩]:=by
 by_cases h0:(a.length:Int)=b.length
 ·have d0:=decide_eq_true h0
  refine fe Tryz.func46 Tryz.ntmps46 Tryz.results46 fun hwf=>?_
  have hl:a.length<=9223372036854775807:=(hwf ⟨.slice tVec,a⟩ (by simp)).1
  try simp (maxSteps:=9^9) only[go_sem,d0]
  refine LoopG.intro _ _ _ (fun i:Nat=>⟨[(0,.sl tVec a),(1,.sl tVec b),(12,.sl tVec a),(13,.sc (.int .i64 a.length)),(14,.sc (.int .i64 i))],[]⟩) (fun i=>∀ j,j < i->j < a.length->nth (t:=tVec) a j=nth (t:=tVec) b j) (fun i=>a.length - i) 0 ?_ (fun j h=>absurd h (Nat.not_lt_zero _)) ?_
  ·exact WK
  ·rintro i hi
   try simp (maxSteps:=9^9) only[go_sem]
   refine CondW_dec (fun hA=>?_) (fun hA=>?_)
   ·by_cases e:nth (t:=tVec) a i=nth (t:=tVec) b i
    ·have d1:(decide ((nth (t:=tVec) a i).1=(nth (t:=tVec) b i).1) && decide ((nth (t:=tVec) a i).2=(nth (t:=tVec) b i).2))=true:=by rw [e]; simp
     try simp (maxSteps:=9^9) only[go_sem,d1]
     repeat refine AI ?_
     try simp (maxSteps:=9^9) only[go_sem,d1]
     repeat refine AI ?_
     refine LoopK.mk (i+1) ?_ (fun j h1 h2=>?_) (by omega)
     ·exact WK
     ·by_cases h3:j < i
      ·exact hi j h3 h2
      ·rw [show j=i by omega]; exact e
    ·have d1:(decide ((nth (t:=tVec) a i).1=(nth (t:=tVec) b i).1) && decide ((nth (t:=tVec) a i).2=(nth (t:=tVec) b i).2))=false:=by
      rw [Bool.eq_false_iff]
      intro h
      rw [Bool.and_eq_true,decide_eq_true_eq,decide_eq_true_eq] at h
      exact e (Prod.ext h.1 h.2)
     rw [eqb_false (fun h=>e (by rw [h]))]
     try simp (maxSteps:=9^9) only[go_sem,d1]
     repeat refine AI ?_
     try simp (maxSteps:=9^9) only[go_sem,d1]
     all_goals repeat refine AI ?_
     all_goals first|kernel_rfl|omega|rfl
   ·have:a=b:=by
     refine List.ext_getElem (by omega) fun j h1 h2=>?_
     have:=hi j (by omega) h1
     rwa [nth_lt h1,nth_lt h2] at this
    rw [eqb_true this]
    try simp (maxSteps:=9^9) only[go_sem]
 ·have d0:=decide_eq_false h0
  rw [eqb_false (fun h=>h0 (by rw [h]))]
  refine fe Tryz.func46 Tryz.ntmps46 Tryz.results46 fun hwf=>?_
  try simp (maxSteps:=9^9) only[go_sem,d0]
theorem sameAreasC_fn (x y:List DV):Fn Tryz.prog 98 [⟨.slice tVec,x⟩,⟨.slice tVec,y⟩] false [⟨.bool,eqb x y⟩]:=by
 refine fe Tryz.func98 Tryz.ntmps98 Tryz.results98 fun hwf=>?_
 try simp (maxSteps:=9^9) only[go_sem]
 repeat refine AI ?_
 refine cw (eqVecs_fn x y) ?_
 try simp (maxSteps:=9^9) only[go_sem]
set_option maxHeartbeats 1000000 in
theorem eqFunc_vs_fn (F:FuncId) (hF:∀ x y:List DV,Fn Tryz.prog F [⟨.slice tVec,x⟩,⟨.slice tVec,y⟩] false [⟨.bool,eqb x y⟩]) (a b:List (List DV)):Fn Tryz.prog 97 [⟨.slice (.slice tVec),a⟩,⟨.slice (.slice tVec),b⟩,⟨.cst (.fn F),()⟩] false [⟨.bool,eqb a b⟩]:=by
 by_cases h0:(a.length:Int)=b.length
 ·have d0:=decide_eq_true h0
  refine fe Tryz.func97 Tryz.ntmps97 Tryz.results97 fun hwf=>?_
  have hl:a.length<=9223372036854775807:=(hwf ⟨.slice (.slice tVec),a⟩ (by simp)).1
  try simp (maxSteps:=9^9) only[go_sem,d0]
  refine LoopG.intro _ _ _ (fun i:Nat=>⟨[(1,.sl (.slice tVec) b),(2,.sc (.func (.func F) #[] #[])),(15,.sl (.slice tVec) a),(16,.sc (.int .i64 a.length)),(17,.sc (.int .i64 i))],[]⟩) (fun i=>∀ j,j < i->j < a.length->nth (t:=.slice tVec) a j=nth (t:=.slice tVec) b j) (fun i=>a.length - i) 0 ?_ (fun j h=>absurd h (Nat.not_lt_zero _)) ?_
  ·exact WK
  ·rintro i hi
   try simp (maxSteps:=9^9) only[go_sem]
   refine CondW_dec (fun hA=>?_) (fun hA=>?_)
   ·have c1:=hF (nth (t:=.slice tVec) a i) (nth (t:=.slice tVec) b i)
    by_cases e:nth (t:=.slice tVec) a i=nth (t:=.slice tVec) b i
    ·rw [eqb_true e] at c1
     try simp (maxSteps:=9^9) only[go_sem]
     repeat refine AI ?_
     repeat refine AI ?_
     refine cw c1 ?_
     try simp (maxSteps:=9^9) only[go_sem]
     repeat refine AI ?_
     refine LoopK.mk (i+1) ?_ (fun j h1 h2=>?_) (by omega)
     ·exact WK
     ·by_cases h3:j < i
      ·exact hi j h3 h2
      ·rw [show j=i by omega]; exact e
    ·rw [eqb_false e] at c1
     rw [eqb_false (fun h=>e (by rw [h]))]
     try simp (maxSteps:=9^9) only[go_sem]
     repeat refine AI ?_
     repeat refine AI ?_
     refine cw c1 ?_
     try simp (maxSteps:=9^9) only[go_sem]
     all_goals repeat refine AI ?_
     all_goals first|kernel_rfl|omega|rfl
   ·have:a=b:=by
     refine List.ext_getElem (by omega) fun j h1 h2=>?_
     have:=hi j (by omega) h1
     rwa [nth_lt h1,nth_lt h2] at this
    rw [eqb_true this]
    try simp (maxSteps:=9^9) only[go_sem]
    all_goals repeat refine AI ?_
    all_goals first|kernel_rfl|omega|rfl
 ·have d0:=decide_eq_false h0
  rw [eqb_false (fun h=>h0 (by rw [h]))]
  refine fe Tryz.func97 Tryz.ntmps97 Tryz.results97 fun hwf=>?_
  try simp (maxSteps:=9^9) only[go_sem,d0]
  all_goals repeat refine AI ?_
  all_goals first|kernel_rfl|omega|rfl
theorem sameAreas_fn (a b:List (List DV)):Fn Tryz.prog 75 [⟨.slice (.slice tVec),a⟩,⟨.slice (.slice tVec),b⟩] false [⟨.bool,eqb a b⟩]:=by
 have c1:=eqFunc_vs_fn 98 sameAreasC_fn a b
 refine fe Tryz.func75 Tryz.ntmps75 Tryz.results75 fun hwf=>?_
 try simp (maxSteps:=9^9) only[go_sem]
 repeat refine AI ?_
 repeat refine AI ?_
 refine cw c1 ?_
 try simp (maxSteps:=9^9) only[go_sem]
 all_goals repeat refine AI ?_
 all_goals first|kernel_rfl|omega|rfl
abbrev DSl:=tSlice.den
def frmP (x y:DSl):Prop:=x.1=y.1/\x.2.1=y.2.1/\x.2.2.1=y.2.2.1/\x.2.2.2.1=y.2.2.2.1
set_option maxHeartbeats 2000000 in
theorem sameFrame_fn (x y:DSl):Fn Tryz.prog 52 [⟨tSlice,x⟩,⟨tSlice,y⟩] false [⟨.bool,bdec (frmP x y)⟩]:=by
 obtain ⟨xh,xo,⟨⟨x1,x2⟩,⟨x3,x4⟩⟩,xa,xr⟩:=x
 obtain ⟨yh,yo,⟨⟨y1,y2⟩,⟨y3,y4⟩⟩,ya,yr⟩:=y
 have c1:=sameAreas_fn xa ya
 by_cases e1:xh=yh
 rotate_left
 ·rw [bdec_f (fun h=>e1 h.1)]
  have d1:=decide_eq_false e1
  refine fe Tryz.func52 Tryz.ntmps52 Tryz.results52 fun hwf=>?_
  try simp (maxSteps:=9^9) only[go_sem,d1]
  all_goals repeat refine AI ?_
  all_goals first|kernel_rfl|omega|rfl
 have d1:=decide_eq_true e1
 by_cases e2:xo=yo
 rotate_left
 ·rw [bdec_f (fun h=>e2 h.2.1)]
  have d2:(xo == yo)=false:=by cases xo<;>cases yo<;>simp_all
  refine fe Tryz.func52 Tryz.ntmps52 Tryz.results52 fun hwf=>?_
  try simp (maxSteps:=9^9) only[go_sem,d1]
  try simp (maxSteps:=9^9) only[go_sem,d1,d2]
  all_goals repeat refine AI ?_
  all_goals first|kernel_rfl|omega|rfl
 have d2:(xo == yo)=true:=by rw [e2]; exact beq_self_eq_true yo
 by_cases e3:x1=y1/\x2=y2/\x3=y3/\x4=y4
 rotate_left
 ·rw [bdec_f (fun h=>e3 (by have h:=h.2.2.1; injection h with h5 h6; injection h5 with h1 h2; injection h6 with h3 h4; exact ⟨h1,h2,h3,h4⟩))]
  have d3:=decide_eq_false e3
  refine fe Tryz.func52 Tryz.ntmps52 Tryz.results52 fun hwf=>?_
  try simp (maxSteps:=9^9) only[go_sem,d1,d2]
  try simp (maxSteps:=9^9) only[go_sem,d1,d2,d3]
  all_goals repeat refine AI ?_
  all_goals first|kernel_rfl|omega|rfl
 have d3:=decide_eq_true e3
 obtain ⟨rfl,rfl,rfl,rfl⟩:=e3
 by_cases e4:xa=ya
 ·rw [bdec_t ⟨e1,e2,rfl,e4⟩]
  rw [eqb_true e4] at c1
  refine fe Tryz.func52 Tryz.ntmps52 Tryz.results52 fun hwf=>?_
  try simp (maxSteps:=9^9) only[go_sem,d1,d2,d3]
  repeat refine AI ?_
  repeat refine AI ?_
  refine cw c1 ?_
  try simp (maxSteps:=9^9) only[go_sem]
  all_goals repeat refine AI ?_
  all_goals first|kernel_rfl|omega|rfl
 ·rw [bdec_f (fun h=>e4 h.2.2.2)]
  rw [eqb_false e4] at c1
  refine fe Tryz.func52 Tryz.ntmps52 Tryz.results52 fun hwf=>?_
  try simp (maxSteps:=9^9) only[go_sem,d1,d2,d3]
  repeat refine AI ?_
  repeat refine AI ?_
  refine cw c1 ?_
  try simp (maxSteps:=9^9) only[go_sem]
  all_goals repeat refine AI ?_
  all_goals first|kernel_rfl|omega|rfl
abbrev DSn:=tScene.den
abbrev DRd:=tRoad.den
def frmE (op:Int->Bool) (bx:Int->DV × DV) (ar:Int->List (List DV)) (h:Int):DSl:=(h,op h,bx h,(if op h=true then ar h else []),[],[],[],[])
open Classical in
noncomputable def chgD (em:Int->DSl) (l:List DSl):Nat->List Int
 | 0=>[]
 | k+1=>if k < l.length/\frmP (nth (t:=tSlice) l k) (em k) then chgD em l k else chgD em l k++[(k:Int)]
theorem chgD_len (em:Int->DSl) (l:List DSl):∀ k,(chgD em l k).length<=k
 | 0=>Nat.le_refl _
 | k+1=>by
  have:=chgD_len em l k
  rw [chgD]
  split
  ·omega
  ·rw [List.length_append,List.length_singleton]; omega
section
variable {s:DSn} {op:Int->Bool} {bx:Int->DV × DV} {ar:Int->List (List DV)}
theorem emptySlice_fn (hz:∀ h,op h=false->bx h=((0,0),(0,0))) (c1:∀ h:Int,Fn Tryz.prog 76 [⟨tScene,s⟩,⟨.int,h⟩] false [⟨tBox,bx h⟩,⟨.bool,op h⟩]) (c2:∀ h:Int,Fn Tryz.prog 77 [⟨tScene,s⟩,⟨.int,h⟩] true [⟨tVecSS,ar h⟩]) (h:Int):Fn Tryz.prog 53 [⟨tScene,s⟩,⟨.int,h⟩] false [⟨tSlice,frmE op bx ar h⟩]:=by
 have c1:=c1 h
 have c2:=c2 h
 have hz:=hz h
 unfold frmE
 generalize op h=o at *
 generalize bx h=b at *
 generalize ar h=a at *
 cases o
 ·have hz:=hz rfl
  subst hz
  refine fe Tryz.func53 Tryz.ntmps53 Tryz.results53 fun hwf=>?_
  try simp (maxSteps:=9^9) only[go_sem]
  repeat refine AI ?_
  refine cw c1 ?_
  try simp (maxSteps:=9^9) only[go_sem]
 ·refine fe Tryz.func53 Tryz.ntmps53 Tryz.results53 fun hwf=>?_
  try simp (maxSteps:=9^9) only[go_sem]
  repeat refine AI ?_
  refine cw c1 ?_
  try simp (maxSteps:=9^9) only[go_sem]
  repeat refine AI ?_
  refine cw c2 ?_
  try simp (maxSteps:=9^9) only[go_sem]
  all_goals repeat refine AI ?_
  all_goals first|kernel_rfl|omega|rfl
set_option maxHeartbeats 2000000 in
theorem changed_fn (r:DRd) {em:Int->DSl} (c1:∀ h:Int,Fn Tryz.prog 53 [⟨tScene,s⟩,⟨.int,h⟩] false [⟨tSlice,em h⟩]):Fn Tryz.prog 31 [⟨tRoad,r⟩,⟨tScene,s⟩] true [⟨tInts,chgD em r.2.1 4⟩]:=by
 refine fe Tryz.func31 Tryz.ntmps31 Tryz.results31 fun hwf=>?_
 try simp (maxSteps:=9^9) only[go_sem]
 refine LoopG.intro _ _ _ (fun k:Nat=>⟨[(2,.ptr 0 0),(3,.ptr 1 0),(4,.sc (.slice none 0 0)),(5,.row 2 0),(8,.sc (.int .i64 k))],[(2,.row 3 .int 0 true (chgD em r.2.1 k)),(1,.box [.sc (.int .i64 s.1.1),.sc (.int .i64 s.1.2),.sc (.int .i64 s.2.1.1),.sc (.int .i64 s.2.1.2),.sl tVec s.2.2.1,.sl (.slice tVec) s.2.2.2.1,.sl tVec s.2.2.2.2]),(0,.box [.sc (.int .i64 r.1.1.1),.sc (.int .i64 r.1.1.2),.sc (.int .i64 r.1.2.1.1),.sc (.int .i64 r.1.2.1.2),.sl tVec r.1.2.2.1,.sl (.slice tVec) r.1.2.2.2.1,.sl tVec r.1.2.2.2.2,.sl tSlice r.2.1,.sl .int r.2.2.1,.sl tInts r.2.2.2])]⟩) (fun k=>k<=4) (fun k=>4 - k) 0 ?_ (Nat.zero_le _) ?_
 ·exact WK
 ·rintro k hk
  have hlen:=chgD_len em r.2.1 k
  try simp (maxSteps:=9^9) only[go_sem]
  refine CondW_dec (fun hA=>?_) (fun hA=>?_)
  ·try simp (maxSteps:=9^9) only[go_sem]
   by_cases h1:k < r.2.1.length
   ·have hI:¬ (r.2.1.length:Int)<=(k:Int):=by omega
    have c2:=sameFrame_fn (nth (t:=tSlice) r.2.1 k) (em k)
    refine GuardW_decf (fun _=>?_) (fun h=>absurd h hI)
    by_cases hf:frmP (nth (t:=tSlice) r.2.1 k) (em k)
    ·have e:chgD em r.2.1 (k+1)=chgD em r.2.1 k:=if_pos ⟨h1,hf⟩
     rw [bdec_t hf] at c2
     try simp (maxSteps:=9^9) only[go_sem]
     refine ⟨by omega,by omega,CallW.mk (c1 k) ?_⟩
     try simp (maxSteps:=9^9) only[go_sem]
     repeat refine AI ?_
     refine cw c2 ?_
     try simp (maxSteps:=9^9) only[go_sem]
     repeat refine AI ?_
     refine LoopK.mk (k+1) ?_ (by omega) (by omega)
     rw [e]
     exact WK
    ·have e:chgD em r.2.1 (k+1)=chgD em r.2.1 k++[(k:Int)]:=if_neg fun h=>hf h.2
     rw [bdec_f hf] at c2
     try simp (maxSteps:=9^9) only[go_sem]
     refine ⟨by omega,by omega,CallW.mk (c1 k) ?_⟩
     try simp (maxSteps:=9^9) only[go_sem]
     repeat refine AI ?_
     refine cw c2 ?_
     try simp (maxSteps:=9^9) only[go_sem]
     repeat refine AI ?_
     refine LoopK.mk (k+1) ?_ (by omega) (by omega)
     rw [e]
     exact WK
   ·have hI:(r.2.1.length:Int)<=(k:Int):=by omega
    have e:chgD em r.2.1 (k+1)=chgD em r.2.1 k++[(k:Int)]:=if_neg fun h=>h1 h.1
    refine GuardW_decf (fun h=>absurd hI h) (fun _=>?_)
    try simp (maxSteps:=9^9) only[go_sem]
    repeat refine AI ?_
    refine LoopK.mk (k+1) ?_ (by omega) (by omega)
    rw [e]
    exact WK
  ·obtain rfl:k=4:=by omega
   try simp (maxSteps:=9^9) only[go_sem]
set_option maxHeartbeats 4000000 in
theorem l25Fits_fn (hz:∀ h,op h=false->bx h=((0,0),(0,0))) (c1:∀ h:Int,Fn Tryz.prog 44 [⟨tScene,s⟩,⟨.int,h⟩] false [⟨tBox,bx h⟩,⟨.bool,op h⟩]) (c2:∀ h:Int,Fn Tryz.prog 45 [⟨tScene,s⟩,⟨.int,h⟩] true [⟨tVecSS,ar h⟩]) (x:DSl) (h:Int):Fn Tryz.prog 23 [⟨tSlice,x⟩,⟨tScene,s⟩,⟨.int,h⟩] false [⟨.bool,bdec (frmP x (frmE op bx ar h))⟩]:=by
 have c1:=c1 h
 have c2:=c2 h
 have hz:=hz h
 unfold frmE frmP
 obtain ⟨xh,xo,⟨⟨x1,x2⟩,⟨x3,x4⟩⟩,xa,xr⟩:=x
 generalize op h=o at *
 generalize hb:bx h=b at *
 generalize ar h=a at *
 obtain ⟨⟨y1,y2⟩,⟨y3,y4⟩⟩:=b
 dsimp only
 by_cases e1:xh=h
 rotate_left
 ·rw [bdec_f (fun h=>e1 h.1)]
  have d1:=decide_eq_false e1
  refine fe Tryz.func23 Tryz.ntmps23 Tryz.results23 fun hwf=>?_
  try simp (maxSteps:=9^9) only[go_sem]
  repeat refine AI ?_
  refine cw c1 ?_
  try simp (maxSteps:=9^9) only[go_sem]
  try simp (maxSteps:=9^9) only[go_sem,d1]
  all_goals repeat refine AI ?_
  all_goals first|kernel_rfl|omega|rfl
 have d1:=decide_eq_true e1
 by_cases e2:xo=o
 rotate_left
 ·rw [bdec_f (fun h=>e2 h.2.1)]
  have d2:(xo == o)=false:=by cases xo<;>cases o<;>simp_all
  refine fe Tryz.func23 Tryz.ntmps23 Tryz.results23 fun hwf=>?_
  try simp (maxSteps:=9^9) only[go_sem]
  repeat refine AI ?_
  refine cw c1 ?_
  try simp (maxSteps:=9^9) only[go_sem]
  try simp (maxSteps:=9^9) only[go_sem,d1,d2]
  all_goals repeat refine AI ?_
  all_goals first|kernel_rfl|omega|rfl
 have d2:(xo == o)=true:=by rw [e2]; exact beq_self_eq_true o
 by_cases e3:x1=y1/\x2=y2/\x3=y3/\x4=y4
 rotate_left
 ·rw [bdec_f (fun h=>e3 (by have h:=h.2.2.1; injection h with h5 h6; injection h5 with h1 h2; injection h6 with h3 h4; exact ⟨h1,h2,h3,h4⟩))]
  have d3:=decide_eq_false e3
  refine fe Tryz.func23 Tryz.ntmps23 Tryz.results23 fun hwf=>?_
  try simp (maxSteps:=9^9) only[go_sem]
  repeat refine AI ?_
  refine cw c1 ?_
  try simp (maxSteps:=9^9) only[go_sem]
  try simp (maxSteps:=9^9) only[go_sem,d1,d2,d3]
  all_goals repeat refine AI ?_
  all_goals first|kernel_rfl|omega|rfl
 have d3:=decide_eq_true e3
 obtain ⟨rfl,rfl,rfl,rfl⟩:=e3
 cases o
 ·by_cases e5:(0:Int)=xa.length
  ·have hn:xa=[]:=List.eq_nil_of_length_eq_zero (by omega)
   have d5:=decide_eq_true e5
   rw [bdec_t ⟨e1,e2,rfl,hn⟩]
   refine fe Tryz.func23 Tryz.ntmps23 Tryz.results23 fun hwf=>?_
   try simp (maxSteps:=9^9) only[go_sem]
   repeat refine AI ?_
   refine cw c1 ?_
   try simp (maxSteps:=9^9) only[go_sem]
   try simp (maxSteps:=9^9) only[go_sem,d1,d2,d3]
   repeat refine AI ?_
   repeat refine AI ?_
   refine cw c2 ?_
   try simp (maxSteps:=9^9) only[go_sem]
   try simp (maxSteps:=9^9) only[go_sem,d5]
   refine LoopG.intro _ _ _ (fun _:Unit=>⟨[(46,.sc (.int .i64 0)),(47,.sc (.int .i64 0))],[]⟩) (fun _=>True) (fun _=>0) () ?_ trivial ?_
   ·exact WK
   ·rintro _ _
    try simp (maxSteps:=9^9) only[go_sem]
  ·have d5:=decide_eq_false e5
   rw [bdec_f (fun h=>e5 (by have h:=h.2.2.2; have h:xa=[]:=h; rw [h]; rfl))]
   refine fe Tryz.func23 Tryz.ntmps23 Tryz.results23 fun hwf=>?_
   try simp (maxSteps:=9^9) only[go_sem]
   repeat refine AI ?_
   refine cw c1 ?_
   try simp (maxSteps:=9^9) only[go_sem]
   try simp (maxSteps:=9^9) only[go_sem,d1,d2,d3]
   repeat refine AI ?_
   repeat refine AI ?_
   refine cw c2 ?_
   try simp (maxSteps:=9^9) only[go_sem]
   try simp (maxSteps:=9^9) only[go_sem,d5]
   all_goals repeat refine AI ?_
   all_goals first|kernel_rfl|omega|rfl
 ·by_cases e5:(a.length:Int)=xa.length
  rotate_left
  ·have d5:=decide_eq_false e5
   rw [bdec_f (fun h=>e5 (by have h:=h.2.2.2; have h:xa=a:=h; rw [h]))]
   refine fe Tryz.func23 Tryz.ntmps23 Tryz.results23 fun hwf=>?_
   try simp (maxSteps:=9^9) only[go_sem]
   repeat refine AI ?_
   refine cw c1 ?_
   try simp (maxSteps:=9^9) only[go_sem]
   try simp (maxSteps:=9^9) only[go_sem,d1,d2,d3]
   repeat refine AI ?_
   repeat refine AI ?_
   refine cw c2 ?_
   try simp (maxSteps:=9^9) only[go_sem]
   try simp (maxSteps:=9^9) only[go_sem,d5]
   all_goals repeat refine AI ?_
   all_goals first|kernel_rfl|omega|rfl
  have d5:=decide_eq_true e5
  refine fe Tryz.func23 Tryz.ntmps23 Tryz.results23 fun hwf=>?_
  have hl:xa.length<=9223372036854775807:=(hwf ⟨tSlice,(xh,xo,((x1,x2),(x3,x4)),xa,xr)⟩ (by simp)).2.2.2.1.1
  try simp (maxSteps:=9^9) only[go_sem]
  repeat refine AI ?_
  refine cw c1 ?_
  try simp (maxSteps:=9^9) only[go_sem]
  try simp (maxSteps:=9^9) only[go_sem,d1,d2,d3]
  repeat refine AI ?_
  repeat refine AI ?_
  refine cw c2 ?_
  try simp (maxSteps:=9^9) only[go_sem]
  try simp (maxSteps:=9^9) only[go_sem,d5]
  refine LoopG.intro _ _ _ (fun i:Nat=>⟨[(3,.ptr 0 0),(45,.row 3 0),(46,.sc (.int .i64 a.length)),(47,.sc (.int .i64 i))],[(3,.odat (.slice tVec) a),(0,.box [.sc (.int .i64 xh),.sc (.bool xo),.sc (.int .i64 x1),.sc (.int .i64 x2),.sc (.int .i64 x3),.sc (.int .i64 x4),.sl (.slice tVec) xa,.sl tCell xr.1,.sl tWall xr.2.1,.sl tVec xr.2.2.1,.sl .int xr.2.2.2])]⟩) (fun i=>∀ j,j < i->j < a.length->nth (t:=.slice tVec) a j=nth (t:=.slice tVec) xa j) (fun i=>a.length - i) 0 ?_ (fun j h=>absurd h (Nat.not_lt_zero _)) ?_
  ·exact WK
  ·rintro i hi
   try simp (maxSteps:=9^9) only[go_sem]
   refine CondW_dec (fun hA=>?_) (fun hA=>?_)
   ·have c3:=l10Same_fn (nth (t:=.slice tVec) a i) (nth (t:=.slice tVec) xa i)
    by_cases e:nth (t:=.slice tVec) a i=nth (t:=.slice tVec) xa i
    ·rw [eqb_true e] at c3
     try simp (maxSteps:=9^9) only[go_sem]
     repeat refine AI ?_
     repeat refine AI ?_
     refine cw c3 ?_
     try simp (maxSteps:=9^9) only[go_sem]
     repeat refine AI ?_
     refine LoopK.mk (i+1) ?_ (fun j h1 h2=>?_) (by omega)
     ·exact WK
     ·by_cases h3:j < i
      ·exact hi j h3 h2
      ·rw [show j=i by omega]; exact e
    ·rw [eqb_false e] at c3
     rw [bdec_f (fun h=>e (by have h:xa=a:=(by first|exact h.2.2.2|exact h.2.2); rw [h]))]
     try simp (maxSteps:=9^9) only[go_sem]
     repeat refine AI ?_
     repeat refine AI ?_
     refine cw c3 ?_
     try simp (maxSteps:=9^9) only[go_sem]
     all_goals repeat refine AI ?_
     all_goals first|kernel_rfl|omega|rfl
   ·have:xa=a:=by
     refine List.ext_getElem (by omega) fun j h1 h2=>?_
     have:=hi j (by omega) h2
     rw [nth_lt h1,nth_lt h2] at this
     exact this.symm
    rw [bdec_t (by first|exact ⟨e1,e2,rfl,this⟩|exact ⟨e1,e2,this⟩)]
    try simp (maxSteps:=9^9) only[go_sem]
set_option maxHeartbeats 2000000 in
theorem ChangedI_g (r:DRd) {em:Int->DSl} {vb:Bool} (cv:Fn Tryz.prog 30 [⟨tScene,s⟩] false [⟨.bool,vb⟩]) (c1:∀ h:Int,Fn Tryz.prog 53 [⟨tScene,s⟩,⟨.int,h⟩] false [⟨tSlice,em h⟩]):Fn Tryz.prog 9 [⟨tRoad,r⟩,⟨tScene,s⟩] true [⟨tInts,if vb=true then chgD em r.2.1 4 else []⟩]:=by
 have c2:=changed_fn r c1
 cases vb
 ·refine fe Tryz.func9 Tryz.ntmps9 Tryz.results9 fun hwf=>?_
  try simp (maxSteps:=9^9) only[go_sem]
  repeat refine AI ?_
  refine cw cv ?_
  try simp (maxSteps:=9^9) only[go_sem]
  all_goals repeat refine AI ?_
  all_goals first|kernel_rfl|omega|rfl
 ·refine fe Tryz.func9 Tryz.ntmps9 Tryz.results9 fun hwf=>?_
  try simp (maxSteps:=9^9) only[go_sem]
  repeat refine AI ?_
  refine cw cv ?_
  try simp (maxSteps:=9^9) only[go_sem]
  repeat refine AI ?_
  refine cw c2 ?_
  try simp (maxSteps:=9^9) only[go_sem]
  all_goals repeat refine AI ?_
  all_goals first|kernel_rfl|omega|rfl
set_option maxHeartbeats 2000000 in
theorem ChangedS_g (r:DRd) {em:Int->DSl} {vb:Bool} (cv:Fn Tryz.prog 22 [⟨tScene,s⟩] false [⟨.bool,vb⟩]) (c1:∀ (x:DSl) (h:Int),Fn Tryz.prog 23 [⟨tSlice,x⟩,⟨tScene,s⟩,⟨.int,h⟩] false [⟨.bool,bdec (frmP x (em h))⟩]):Fn Tryz.prog 6 [⟨tRoad,r⟩,⟨tScene,s⟩] true [⟨tInts,if vb=true then chgD em r.2.1 4 else []⟩]:=by
 cases vb
 ·refine fe Tryz.func6 Tryz.ntmps6 Tryz.results6 fun hwf=>?_
  try simp (maxSteps:=9^9) only[go_sem]
  repeat refine AI ?_
  refine cw cv ?_
  try simp (maxSteps:=9^9) only[go_sem]
  all_goals repeat refine AI ?_
  all_goals first|kernel_rfl|omega|rfl
 ·refine fe Tryz.func6 Tryz.ntmps6 Tryz.results6 fun hwf=>?_
  try simp (maxSteps:=9^9) only[go_sem]
  repeat refine AI ?_
  refine cw cv ?_
  try simp (maxSteps:=9^9) only[go_sem]
  refine LoopG.intro _ _ _ (fun k:Nat=>⟨[(2,.ptr 0 0),(3,.ptr 1 0),(4,.sc (.slice none 0 0)),(5,.row 2 0),(6,.sc (.int .i64 k))],[(2,.row 3 .int 0 true (chgD em r.2.1 k)),(1,.box [.sc (.int .i64 s.1.1),.sc (.int .i64 s.1.2),.sc (.int .i64 s.2.1.1),.sc (.int .i64 s.2.1.2),.sl tVec s.2.2.1,.sl (.slice tVec) s.2.2.2.1,.sl tVec s.2.2.2.2]),(0,.box [.sc (.int .i64 r.1.1.1),.sc (.int .i64 r.1.1.2),.sc (.int .i64 r.1.2.1.1),.sc (.int .i64 r.1.2.1.2),.sl tVec r.1.2.2.1,.sl (.slice tVec) r.1.2.2.2.1,.sl tVec r.1.2.2.2.2,.sl tSlice r.2.1,.sl .int r.2.2.1,.sl tInts r.2.2.2])]⟩) (fun k=>k<=4) (fun k=>4 - k) 0 ?_ (Nat.zero_le _) ?_
  ·exact WK
  ·rintro k hk
   have hlen:=chgD_len em r.2.1 k
   try simp (maxSteps:=9^9) only[go_sem]
   refine CondW_dec (fun hA=>?_) (fun hA=>?_)
   ·try simp (maxSteps:=9^9) only[go_sem]
    by_cases h1:k < r.2.1.length
    ·have hI:¬ (r.2.1.length:Int)<=(k:Int):=by omega
     have c2:=c1 (nth (t:=tSlice) r.2.1 k) k
     refine GuardW_decf (fun _=>?_) (fun h=>absurd h hI)
     by_cases hf:frmP (nth (t:=tSlice) r.2.1 k) (em k)
     ·have e:chgD em r.2.1 (k+1)=chgD em r.2.1 k:=if_pos ⟨h1,hf⟩
      rw [bdec_t hf] at c2
      try simp (maxSteps:=9^9) only[go_sem]
      refine ⟨by omega,by omega,CallW.mk c2 ?_⟩
      try simp (maxSteps:=9^9) only[go_sem]
      repeat refine AI ?_
      refine LoopK.mk (k+1) ?_ (by omega) (by omega)
      rw [e]
      exact WK
     ·have e:chgD em r.2.1 (k+1)=chgD em r.2.1 k++[(k:Int)]:=if_neg fun h=>hf h.2
      rw [bdec_f hf] at c2
      try simp (maxSteps:=9^9) only[go_sem]
      refine ⟨by omega,by omega,CallW.mk c2 ?_⟩
      try simp (maxSteps:=9^9) only[go_sem]
      repeat refine AI ?_
      refine LoopK.mk (k+1) ?_ (by omega) (by omega)
      rw [e]
      exact WK
    ·have hI:(r.2.1.length:Int)<=(k:Int):=by omega
     have e:chgD em r.2.1 (k+1)=chgD em r.2.1 k++[(k:Int)]:=if_neg fun h=>h1 h.1
     refine GuardW_decf (fun h=>absurd hI h) (fun _=>?_)
     try simp (maxSteps:=9^9) only[go_sem]
     repeat refine AI ?_
     refine LoopK.mk (k+1) ?_ (by omega) (by omega)
     rw [e]
     exact WK
   ·obtain rfl:k=4:=by omega
    try simp (maxSteps:=9^9) only[go_sem]
end
end Go.Proofs.YtpdiggaapdhffaaGreat.DW

namespace Go.Proofs.YtpdiggaapdhffaaGreat
open Go.RowKit
theorem Has.of {α:Type} {A:Rp α} {w:World} {cs:List Value} {a:α} {fp:List Nat} (h:A.rep w cs a fp):Has A w cs a:=⟨fp,h⟩
def ecVec (x:DVec):Nat:=1+1
def emVec (x:DVec) (k:Int):DVec:=(k,k+1)
def cnVecS:DVecS->Nat
 | []=>0
 | x :: l=>ecVec x+cnVecS l
theorem cnVecS_snoc (l:DVecS) (x:DVec):cnVecS (l++[x])=cnVecS l+ecVec x:=by
 induction l with
 | nil=>simp [cnVecS]
 | cons y l ih=>simp [cnVecS,ih]; omega
theorem cnVecS_take (l:DVecS) (k:Nat):cnVecS (l.take k)<=cnVecS l:=by
 induction l generalizing k with
 | nil=>simp [cnVecS]
 | cons y l ih=>cases k with
  | zero=>simp [cnVecS]
  | succ k=>have:=ih k; simp [cnVecS]; omega
def mkVecS:DVecS->Int->DVecS
 | [],_=>[]
 | x :: l,k=>emVec x k :: mkVecS l (k+ecVec x)
theorem mkVecS_len (l:DVecS) (k:Int):(mkVecS l k).length=l.length:=by
 induction l generalizing k with
 | nil=>rfl
 | cons y l ih=>simp [mkVecS,ih]
theorem mkVecS_snoc (l:DVecS) (x:DVec) (k:Int):mkVecS (l++[x]) k=mkVecS l k++[emVec x (k+cnVecS l)]:=by
 induction l generalizing k with
 | nil=>simp [mkVecS,cnVecS]
 | cons y l ih=>simp only [List.cons_append,mkVecS,ih,cnVecS]; rw [show k+(ecVec y:Int)+(cnVecS l:Int)=k+((ecVec y+cnVecS l:Nat):Int) from by omega]
def mkTour (x:DTour) (k:Int):DTour:=(mkVecS x.1 k,mkPlacement x.2.1 (k+cnVecS x.1),mkStepS x.2.2 (k+cnVecS x.1+cnPlacement x.2.1))
set_option maxHeartbeats 1000000 in
theorem markVecS_any (v:Value) (x:DVecS) (k:Int) (fp:List Nat) (w:World) (hx:RVecS.rep w [v] x fp) (hn:fp.Nodup) (hf:∀ b ∈ fp,Free w b) (h0:0<=k) (h1:k+cnVecS x<=1073741824) :
  Calls Tryz.prog 39 #[v,.int .i64 k] w (Post (MarkPost RVecS [v] (mkVecS x k) fp (k+cnVecS x) w)):=by
 obtain ⟨ad,c,hv,hlc,hm,hh⟩:=hx
 injection hv with hv
 subst hv
 unfold maxLen at hm
 rcases hh with ⟨rfl,rfl⟩|⟨b,off,fps,hl,rfl,rfl,he⟩
 ·go_enter Tryz.func39,Tryz.ntmps39
  go_wp2
  go_loopw [1,5] (fun kk i wr=>i=.int .i64 0/\kk=.int .i64 k/\wr=w) (fun _ _ _=>0)
  case atStart=>exact ⟨rfl,rfl,rfl⟩
  case round =>
   obtain ⟨rfl,rfl,rfl⟩:=hrel
   go_wp2
   go_ret
   exact ⟨_,rfl,congrArg (Value.int .i64) (by simp [cnVecS]),⟨ad,c,rfl,hlc,by unfold maxLen; omega,.inl ⟨rfl,rfl⟩⟩,Upto.refl _ _⟩
 have HN:=Lib.hid hn; have HF:=Lib.hid hf; have HE:=Lib.hid he; have HL:=Lib.hid hl; clear hn hf he hl
 go_enter Tryz.func39,Tryz.ntmps39
 go_wp2
 go_loopw [1,5] (fun kk i wr=>∃ j:Nat,j<=x.length/\i=.int .i64 j/\kk=.int .i64 (k+(cnVecS (x.take j):Nat))/\Elems RVec wr b off (mkVecS (x.take j) k++x.drop j) fps/\Upto (b :: fps.flatten) w wr) (fun _ i _=>x.length - (intOf i).toNat)
 case atStart=>exact ⟨0,Nat.zero_le _,rfl,congrArg (Value.int .i64) (by simp [cnVecS]),by simpa [mkVecS] using HE.out,Upto.refl _ _⟩
 case round =>
  obtain ⟨j,hj,rfl,rfl,hE,hU⟩:=hrel
  have HEr:=Lib.hid hE; have HU:=Lib.hid hU; clear hE hU
  by_cases hjl:j < x.length
  rotate_left
  ·obtain rfl:j=x.length:=by omega
   go_wp2
   go_ret
   have h:=HEr.out
   rw [List.take_length,List.drop_length,List.append_nil] at h
   have hml:=mkVecS_len x k
   exact ⟨_,rfl,congrArg (Value.int .i64) (by rw [List.take_length]),⟨_,c,by rw [hml],by rw [hml]; exact hlc,by unfold maxLen; omega,.inr ⟨b,off,fps,fun e=>HL.out (List.eq_nil_of_length_eq_zero (by rw [<-hml,e]; rfl)),rfl,rfl,h⟩⟩,HU.out⟩
  have hml:(mkVecS (x.take j) k).length=j:=by rw [mkVecS_len,List.length_take]; omega
  have hget:(mkVecS (x.take j) k++x.drop j)[j]? = some x[j]:=by rw [List.getElem?_append_right (by omega),hml]; simp
  obtain ⟨f,cs,hfj,hr,hcs⟩:=HEr.out.2 j _ hget
  have hfr:=HU.out.free b List.mem_cons_self (HF.out b List.mem_cons_self)
  have hbf:b ∉ f:=fun h=>(List.nodup_cons.1 HN.out).1 (flat_mem hfj b h)
  have hff:∀ z ∈ f,Free wr z:=fun z hz=>HU.out.free z (List.mem_cons_of_mem _ (flat_mem hfj z hz)) (HF.out z (List.mem_cons_of_mem _ (flat_mem hfj z hz)))
  have hfn:f.Nodup:=(List.pairwise_flatten.1 (List.nodup_cons.1 HN.out).2).1 f (List.mem_of_getElem? hfj)
  have hec:cnVecS (x.take j)+ecVec x[j]=cnVecS (x.take (j+1)):=by rw [List.take_succ_eq_append_getElem hjl,cnVecS_snoc]
  have hect:=cnVecS_take x (j+1)
  obtain ⟨q,hq⟩:∃ q:Int,q=k+(cnVecS (x.take j):Nat):=⟨_,rfl⟩
  have hq0:0<=q:=by omega
  have hq1:q+(ecVec x[j]:Nat)<=1073741824:=by omega
  rw [<-hq]
  have HQ:=Lib.hid hq; have HEC:=Lib.hid hec; have HML:=Lib.hid hml; have HFJ:=Lib.hid hfj
  clear hq hec hml hget hfj hect
  obtain ⟨c0,c1,rfl⟩:=list2 (RVec.len hr)
  obtain ⟨f0,f1,rfl,hp0,hp1⟩:=rep_split [c0] [c1] rfl hr
  obtain ⟨he0,rfl,hI0⟩:=hp0
  injection he0 with he0; subst he0
  obtain ⟨he1,rfl,hI1⟩:=hp1
  injection he1 with he1; subst he1
  have hnd:=hfn
  simp only [List.nil_append,List.append_assoc] at hnd
  have HFF:=Lib.hid hff; have HBF:=Lib.hid hbf; clear hff hbf hfn
  have nd0:=hnd
  have hqe:=hq1; simp only [ecVec] at hqe
  have hbl0:b < wr.heap.size:=hfr.lt
  have g0:wr.cell? ⟨b,off+j * 2,none⟩=some (Value.int .i64 x[j].1):=hcs 0 _ rfl
  have g1:wr.cell? ⟨b,off+j * 2+1,none⟩=some (Value.int .i64 x[j].2):=hcs 1 _ rfl
  have hfz:=hfr.frozen
  have HT0:=Lib.hid (Upto.refl (b :: ([]++[])) wr)
  clear hcs hfr
  go_wp2
  go_roundw
  case rel =>
   have hBe:Upto [b] wr _:=(((Upto.refl [b] wr).setCell (p:=⟨b,off+j * 2,none⟩) List.mem_cons_self (Value.int .i64 (q))).setCell (p:=⟨b,off+j * 2+1,none⟩) List.mem_cons_self (Value.int .i64 (q+1)))
   have e0:((wr.setCell ⟨b,off+j * 2,none⟩ (Value.int .i64 (q))).setCell ⟨b,off+j * 2+1,none⟩ (Value.int .i64 (q+1))).cell? ⟨b,off+j * 2,none⟩=some (Value.int .i64 (q)):=by simp [go_sem,g0]
   have e1:((wr.setCell ⟨b,off+j * 2,none⟩ (Value.int .i64 (q))).setCell ⟨b,off+j * 2+1,none⟩ (Value.int .i64 (q+1))).cell? ⟨b,off+j * 2+1,none⟩=some (Value.int .i64 (q+1)):=by simp [go_sem,g1]
   have hup:=HEr.out.update (w':=((wr.setCell ⟨b,off+j * 2,none⟩ (Value.int .i64 (q))).setCell ⟨b,off+j * 2+1,none⟩ (Value.int .i64 (q+1)))) (x':=emVec x[j] q) (cs':=[(Value.int .i64 (q)),(Value.int .i64 (q+1))]) HN.out HFJ.out (rep_pair (rep_int [] (by first|rfl|(simp only [ecVec]; omega)) (by constructor<;>omega)) (rep_int [] (by first|rfl|(simp only [ecVec]; omega)) (by constructor<;>omega))) (cells_cons e0 (cells_cons e1 cells_nil))
    (fun z hz hzb hzf=>(((HT0.out.setCell (p:=⟨b,off+j * 2,none⟩) List.mem_cons_self (Value.int .i64 (q))).setCell (p:=⟨b,off+j * 2+1,none⟩) List.mem_cons_self (Value.int .i64 (q+1)))).block z hz (by rw [List.mem_cons]; exact fun h=>h.elim hzb hzf))
    (fun o ho=>have ho:o < off+j * 2\/off+j * 2+2<=o:=by have h1:(j+1) * 2=j * 2+2:=Nat.succ_mul _ _; have h2:o < off+j * 2\/off+(j+1) * 2<=o:=ho; omega
     ((setCell_out (Value.int .i64 (q+1)) (by omega)).trans ((setCell_out (Value.int .i64 (q)) (by omega)).trans rfl)))
   have e:(mkVecS (x.take j) k++x.drop j).set j (emVec x[j] q)=mkVecS (x.take (j+1)) k++x.drop (j+1):=by
    rw [List.set_append_right _ _ (by rw [HML.out]; exact Nat.le_refl _),HML.out,Nat.sub_self,List.drop_eq_getElem_cons hjl,List.set_cons_zero,List.take_succ_eq_append_getElem hjl,mkVecS_snoc,<-HQ.out]
    simp
   rw [e] at hup
   refine ⟨j+1,by omega,by go_num,congrArg (Value.int .i64) ?_,hup,HU.out.trans ((((HT0.out.setCell (p:=⟨b,off+j * 2,none⟩) List.mem_cons_self (Value.int .i64 (q))).setCell (p:=⟨b,off+j * 2+1,none⟩) List.mem_cons_self (Value.int .i64 (q+1)))).mono ?_)⟩
   ·have h1:=HQ.out; have h2:=HEC.out; simp only [ecVec] at h2; omega
   ·intro z hz; rcases List.mem_cons.1 hz with rfl|hz; exact List.mem_cons_self; exact List.mem_cons_of_mem _ (flat_mem HFJ.out z hz)
  case measure=>simp [intOf]; omega
namespace DW
@[go_sem] theorem mkTour_sc0 (x:DTour) (k:Int):(mkTour x k).2.1.1=x.2.1.1:=(rfl)
@[go_sem] theorem mkTour_sc1 (x:DTour) (k:Int):(mkTour x k).2.1.2.1.1.1=x.2.1.2.1.1.1:=(rfl)
@[go_sem] theorem mkTour_sc2 (x:DTour) (k:Int):(mkTour x k).2.1.2.2.1.1=x.2.1.2.2.1.1:=(rfl)
theorem cnVecS_le (x:DVecS):cnVecS x=2 * x.length:=by
 induction x with
 | nil=>rfl
 | cons y l ih=>rw [cnVecS,ih,List.length_cons]; unfold ecVec; omega
end DW
def cnVecSS:DVecSS->Nat
 | []=>0
 | x :: l=>cnVecS x+cnVecSS l
theorem cnVecSS_snoc (l:DVecSS) (x:DVecS):cnVecSS (l++[x])=cnVecSS l+cnVecS x:=by
 induction l with
 | nil=>simp [cnVecSS]
 | cons y l ih=>simp [cnVecSS,ih]; omega
theorem cnVecSS_take (l:DVecSS) (k:Nat):cnVecSS (l.take k)<=cnVecSS l:=by
 induction l generalizing k with
 | nil=>simp [cnVecSS]
 | cons y l ih=>cases k with
  | zero=>simp [cnVecSS]
  | succ k=>have:=ih k; simp [cnVecSS]; omega
def mkVecSS:DVecSS->Int->DVecSS
 | [],_=>[]
 | x :: l,k=>mkVecS x k :: mkVecSS l (k+cnVecS x)
theorem mkVecSS_len (l:DVecSS) (k:Int):(mkVecSS l k).length=l.length:=by
 induction l generalizing k with
 | nil=>rfl
 | cons y l ih=>simp [mkVecSS,ih]
theorem mkVecSS_snoc (l:DVecSS) (x:DVecS) (k:Int):mkVecSS (l++[x]) k=mkVecSS l k++[mkVecS x (k+cnVecSS l)]:=by
 induction l generalizing k with
 | nil=>simp [mkVecSS,cnVecSS]
 | cons y l ih=>simp only [List.cons_append,mkVecSS,ih,cnVecSS]; rw [show k+(cnVecS y:Int)+(cnVecSS l:Int)=k+((cnVecS y+cnVecSS l:Nat):Int) from by omega]
def cnScene (x:DScene):Nat:=cnVecS x.2.2.1+cnVecSS x.2.2.2.1+cnVecS x.2.2.2.2
def mkScene (x:DScene) (k:Int):DScene:=(x.1,x.2.1,mkVecS x.2.2.1 k,mkVecSS x.2.2.2.1 (k+cnVecS x.2.2.1),mkVecS x.2.2.2.2 (k+cnVecS x.2.2.1+cnVecSS x.2.2.2.1))
set_option maxHeartbeats 400000 in
theorem markVecSS_any (v:Value) (x:DVecSS) (k:Int) (fp:List Nat) (w:World) (hx:RVecSS.rep w [v] x fp) (hn:fp.Nodup) (hf:∀ b ∈ fp,Free w b) (h0:0<=k) (h1:k+cnVecSS x<=1073741824) :
  Calls Tryz.prog 40 #[v,.int .i64 k] w (Post (MarkPost RVecSS [v] (mkVecSS x k) fp (k+cnVecSS x) w)):=by
 obtain ⟨ad,c,hv,hlc,hm,hh⟩:=hx
 injection hv with hv
 subst hv
 unfold maxLen at hm
 rcases hh with ⟨rfl,rfl⟩|⟨b,off,fps,hl,rfl,rfl,he⟩
 ·go_enter Tryz.func40,Tryz.ntmps40
  go_wp2
  go_loopw [1,5] (fun kk i wr=>i=.int .i64 0/\kk=.int .i64 k/\wr=w) (fun _ _ _=>0)
  case atStart=>exact ⟨rfl,rfl,rfl⟩
  case round =>
   obtain ⟨rfl,rfl,rfl⟩:=hrel
   go_wp2
   go_ret
   exact ⟨_,rfl,congrArg (Value.int .i64) (by simp [cnVecSS]),⟨ad,c,rfl,hlc,by unfold maxLen; omega,.inl ⟨rfl,rfl⟩⟩,Upto.refl _ _⟩
 have HN:=Lib.hid hn; have HF:=Lib.hid hf; have HE:=Lib.hid he; have HL:=Lib.hid hl; clear hn hf he hl
 go_enter Tryz.func40,Tryz.ntmps40
 go_wp2
 go_loopw [1,5] (fun kk i wr=>∃ j:Nat,j<=x.length/\i=.int .i64 j/\kk=.int .i64 (k+(cnVecSS (x.take j):Nat))/\Elems RVecS wr b off (mkVecSS (x.take j) k++x.drop j) fps/\Upto (b :: fps.flatten) w wr) (fun _ i _=>x.length - (intOf i).toNat)
 case atStart=>exact ⟨0,Nat.zero_le _,rfl,congrArg (Value.int .i64) (by simp [cnVecSS]),by simpa [mkVecSS] using HE.out,Upto.refl _ _⟩
 case round =>
  obtain ⟨j,hj,rfl,rfl,hE,hU⟩:=hrel
  have HEr:=Lib.hid hE; have HU:=Lib.hid hU; clear hE hU
  by_cases hjl:j < x.length
  rotate_left
  ·obtain rfl:j=x.length:=by omega
   go_wp2
   go_ret
   have h:=HEr.out
   rw [List.take_length,List.drop_length,List.append_nil] at h
   have hml:=mkVecSS_len x k
   exact ⟨_,rfl,congrArg (Value.int .i64) (by rw [List.take_length]),⟨_,c,by rw [hml],by rw [hml]; exact hlc,by unfold maxLen; omega,.inr ⟨b,off,fps,fun e=>HL.out (List.eq_nil_of_length_eq_zero (by rw [<-hml,e]; rfl)),rfl,rfl,h⟩⟩,HU.out⟩
  have hml:(mkVecSS (x.take j) k).length=j:=by rw [mkVecSS_len,List.length_take]; omega
  have hget:(mkVecSS (x.take j) k++x.drop j)[j]? = some x[j]:=by rw [List.getElem?_append_right (by omega),hml]; simp
  obtain ⟨f,cs,hfj,hr,hcs⟩:=HEr.out.2 j _ hget
  have hfr:=HU.out.free b List.mem_cons_self (HF.out b List.mem_cons_self)
  have hbf:b ∉ f:=fun h=>(List.nodup_cons.1 HN.out).1 (flat_mem hfj b h)
  have hff:∀ z ∈ f,Free wr z:=fun z hz=>HU.out.free z (List.mem_cons_of_mem _ (flat_mem hfj z hz)) (HF.out z (List.mem_cons_of_mem _ (flat_mem hfj z hz)))
  have hfn:f.Nodup:=(List.pairwise_flatten.1 (List.nodup_cons.1 HN.out).2).1 f (List.mem_of_getElem? hfj)
  have hec:cnVecSS (x.take j)+cnVecS x[j]=cnVecSS (x.take (j+1)):=by rw [List.take_succ_eq_append_getElem hjl,cnVecSS_snoc]
  have hect:=cnVecSS_take x (j+1)
  obtain ⟨q,hq⟩:∃ q:Int,q=k+(cnVecSS (x.take j):Nat):=⟨_,rfl⟩
  have hq0:0<=q:=by omega
  have hq1:q+(cnVecS x[j]:Nat)<=1073741824:=by omega
  rw [<-hq]
  have HQ:=Lib.hid hq; have HEC:=Lib.hid hec; have HML:=Lib.hid hml; have HFJ:=Lib.hid hfj
  clear hq hec hml hget hfj hect
  obtain ⟨c0,rfl⟩:=list1 (RVecS.len hr)
  have HR:=Lib.hid hr; have HFF:=Lib.hid hff; have HBF:=Lib.hid hbf; have HFN:=Lib.hid hfn; clear hr hff hbf hfn
  have hbl0:b < wr.heap.size:=hfr.lt
  have g0:wr.cell? ⟨b,off+j,none⟩=some c0:=by simpa [Rp.slice] using hcs 0 _ rfl
  have hl0:(0:Int)<=(cnVecS x[j]:Nat):=Int.natCast_nonneg _
  clear hcs hfr
  go_wp2_with fail
  refine (markVecS_any _ _ _ f _ HR.out HFN.out HFF.out (by omega) (by omega)).mono ?_
  rintro e w1 ⟨v,rfl,rfl,hmm,hu1⟩
  have HMM:=Lib.hid hmm; have HU1:=Lib.hid hu1
  have hcb1:=hu1.cell (b:=b) hbl0 HBF.out
  clear hmm hu1
  go_wp2
  go_roundw
  case rel =>
   have e0:w1.cell? ⟨b,off+j,none⟩=some c0:=by simp [go_sem,hcb1,g0]
   have hup:=HEr.out.update (w':=w1) (x':=mkVecS x[j] q) (cs':=[c0]) HN.out HFJ.out HMM.out (cells_cons (by simpa [Rp.slice] using e0) cells_nil)
    (fun z hz _ hzf=>HU1.out.block z hz hzf)
    (fun o _=>hcb1 o)
   have e:(mkVecSS (x.take j) k++x.drop j).set j (mkVecS x[j] q)=mkVecSS (x.take (j+1)) k++x.drop (j+1):=by
    rw [List.set_append_right _ _ (by rw [HML.out]; exact Nat.le_refl _),HML.out,Nat.sub_self,List.drop_eq_getElem_cons hjl,List.set_cons_zero,List.take_succ_eq_append_getElem hjl,mkVecSS_snoc,<-HQ.out]
    simp
   rw [e] at hup
   refine ⟨j+1,by omega,by go_num,congrArg (Value.int .i64) ?_,hup,HU.out.trans (HU1.out.mono ?_)⟩
   ·have h1:=HQ.out; have h2:=HEC.out; omega
   ·intro z hz; exact List.mem_cons_of_mem _ (flat_mem HFJ.out z hz)
  case measure=>simp [intOf]; omega
set_option maxHeartbeats 1000000 in
theorem markScene_any (c0 c1 c2 c3 c4 c5 c6:Value) (x:DScene) (k:Int) (fp:List Nat) (w:World) (hx:RScene.rep w [c0,c1,c2,c3,c4,c5,c6] x fp) (hn:fp.Nodup) (hf:∀ b ∈ fp,Free w b) (h0:0<=k) (h1:k+cnScene x<=1073741824) :
  Calls Tryz.prog 14 #[.agg #[c0,c1,c2,c3,c4,c5,c6],.int .i64 k] w (Post (MarkPost RScene [c0,c1,c2,c3,c4,c5,c6] (mkScene x k) fp (k+cnScene x) w)):=by
 have hlt:=RScene.lt hx
 have hflat:∀ {d0 d1:Value} {y:DVec} {f:List Nat},RVec.rep w [d0,d1] y f->f=[]:=fun {d0 d1 y f} h=>by
  obtain ⟨_,_,rfl,h1,h2⟩:=rep_split [d0] [d1] rfl h
  rw [h1.2.1,h2.2.1]; rfl
 obtain ⟨fa,fr1,rfl,hra,hrest1⟩:=rep_split [c0,c1] [c2,c3,c4,c5,c6] rfl hx
 obtain ⟨fb,fr2,rfl,hrb,hrest2⟩:=rep_split [c2,c3] [c4,c5,c6] rfl hrest1
 obtain rfl:=hflat hra
 obtain rfl:=hflat hrb
 obtain ⟨f0,frest,rfl,hr0,hrest⟩:=rep_split [c4] [c5,c6] rfl hrest2
 obtain ⟨f1,f2,rfl,hr1,hr2⟩:=rep_split [c5] [c6] rfl hrest
 simp only [List.nil_append] at hn hf hlt
 obtain ⟨nd0,nd12,dj0,dj0'⟩:=nodup_app hn
 obtain ⟨nd1,nd2,dj1,dj1'⟩:=nodup_app nd12
 have m0:∀ b,b ∈ f0->b ∈ f0++(f1++f2):=fun b hb=>List.mem_append.2 (.inl hb)
 have m1:∀ b,b ∈ f1->b ∈ f0++(f1++f2):=fun b hb=>List.mem_append.2 (.inr (List.mem_append.2 (.inl hb)))
 have m2:∀ b,b ∈ f2->b ∈ f0++(f1++f2):=fun b hb=>List.mem_append.2 (.inr (List.mem_append.2 (.inr hb)))
 have n01:∀ b,b ∈ f0->b ∉ f1:=fun b h g=>dj0 b h (List.mem_append.2 (.inl g))
 have n02:∀ b,b ∈ f0->b ∉ f2:=fun b h g=>dj0 b h (List.mem_append.2 (.inr g))
 have n10:∀ b,b ∈ f1->b ∉ f0:=fun b h g=>n01 b g h
 have n20:∀ b,b ∈ f2->b ∉ f0:=fun b h g=>n02 b g h
 have HRA:=Lib.hid hra; have HRB:=Lib.hid hrb
 have HR0:=Lib.hid hr0; have HR1:=Lib.hid hr1; have HR2:=Lib.hid hr2
 have HF:=Lib.hid hf; have HLT:=Lib.hid hlt; clear hr0 hr1 hr2 hn hf hlt hx hrest hrest1 hrest2 hra hrb hflat
 have hub:=h1; unfold cnScene at hub
 have hp0:(0:Int)<=(cnVecS x.2.2.1:Nat):=Int.natCast_nonneg _
 have hp1:(0:Int)<=(cnVecSS x.2.2.2.1:Nat):=Int.natCast_nonneg _
 have hp2:(0:Int)<=(cnVecS x.2.2.2.2:Nat):=Int.natCast_nonneg _
 have hend:k+(cnVecS x.2.2.1:Nat)+(cnVecSS x.2.2.2.1:Nat)+(cnVecS x.2.2.2.2:Nat)=k+(cnScene x:Nat):=by unfold cnScene; omega
 have HEND:=Lib.hid hend; clear hend
 go_enter Tryz.func14,Tryz.ntmps14
 have hu0:Below w.heap.size w (w.alloc (Obj.cells #[c0,c1,c2,c3,c4,c5,c6] 40)):=(Below.refl w.heap.size w).alloc (Nat.le_refl _) _
 go_wp2_with fail
 refine (markVecS_any _ _ _ f0 _ (RVecS.frame HR0.out fun b hb=>hu0.block b (HLT.out b (m0 b hb))) nd0 (fun b hb=>(HF.out b (m0 b hb)).frame (hu0.block b (HLT.out b (m0 b hb)))) (by omega) (by omega)).mono ?_
 rintro e w1 ⟨v,rfl,rfl,hm1,hu1⟩
 have HMM1:=Lib.hid hm1; clear hm1
 have hcb1:∀ o,w1.cell? ⟨w.heap.size,o,none⟩=(w.alloc (Obj.cells #[c0,c1,c2,c3,c4,c5,c6] 40)).cell? ⟨w.heap.size,o,none⟩:=fun o=>hu1.cell (by simp) (fun hb=>absurd (HLT.out _ (m0 _ hb)) (by omega)) o
 go_wp2_with fail
 have hr11:RVecSS.rep w1 [c5] x.2.2.2.1 f1:=Rp.upto (RVecSS.frame HR1.out fun b hb=>hu0.block b (HLT.out b (m1 b hb))) hu1 n10
 have hfr1:∀ b ∈ f1,Free w1 b:=fun b hb=>((HF.out b (m1 b hb)).frame (hu0.block b (HLT.out b (m1 b hb)))).frame (hu1.block b (Nat.lt_of_lt_of_le (HLT.out b (m1 b hb)) hu0.size) (n10 b hb))
 have hr21:RVecS.rep w1 [c6] x.2.2.2.2 f2:=Rp.upto (RVecS.frame HR2.out fun b hb=>hu0.block b (HLT.out b (m2 b hb))) hu1 n20
 have hfr2:∀ b ∈ f2,Free w1 b:=fun b hb=>((HF.out b (m2 b hb)).frame (hu0.block b (HLT.out b (m2 b hb)))).frame (hu1.block b (Nat.lt_of_lt_of_le (HLT.out b (m2 b hb)) hu0.size) (n20 b hb))
 have hlt1:∀ b ∈ f1++f2,b < w1.heap.size:=fun b hb=>Nat.lt_of_lt_of_le (HLT.out b (List.mem_append.2 (.inr hb))) (Nat.le_trans hu0.size hu1.size)
 refine (markVecSS_any _ _ _ f1 _ hr11 nd1 hfr1 (by omega) (by omega)).mono ?_
 rintro e w2 ⟨v,rfl,rfl,hm2,hu2⟩
 have HMM2:=Lib.hid hm2; clear hm2
 have hcb2:∀ o,w2.cell? ⟨w.heap.size,o,none⟩=(w.alloc (Obj.cells #[c0,c1,c2,c3,c4,c5,c6] 40)).cell? ⟨w.heap.size,o,none⟩:=fun o=>(hu2.cell (Nat.lt_of_lt_of_le (by simp) hu1.size) (fun hb=>absurd (HLT.out _ (m1 _ hb)) (by omega)) o).trans (hcb1 o)
 go_wp2_with fail
 have hr22:RVecS.rep w2 [c6] x.2.2.2.2 f2:=Rp.upto hr21 hu2 dj1'
 have hfr22:∀ b ∈ f2,Free w2 b:=fun b hb=>(hfr2 b hb).frame (hu2.block b (hlt1 b (List.mem_append.2 (.inr hb))) (dj1' b hb))
 refine (markVecS_any _ _ _ f2 _ hr22 nd2 hfr22 (by omega) (by omega)).mono ?_
 rintro e w3 ⟨v,rfl,rfl,hm3,hu3⟩
 have HMM3:=Lib.hid hm3; clear hm3
 go_wp2
 go_ret
 exact ⟨_,rfl,congrArg (Value.int .i64) HEND.out,rep_pair (RVec.frame HRA.out fun b hb=>by cases hb) (rep_pair (RVec.frame HRB.out fun b hb=>by cases hb) (rep_pair (Rp.upto (Rp.upto HMM1.out hu2 n01) hu3 n02) (rep_pair (Rp.upto HMM2.out hu3 dj1) HMM3.out))),
  (((Upto.of_below hu0 (Nat.le_refl _)).trans (hu1.mono fun b hb=>m0 b hb)).trans (hu2.mono fun b hb=>m1 b hb)).trans (hu3.mono fun b hb=>m2 b hb)⟩
namespace DW
theorem markScene_fn (x:DScene) (k:Int) (h0:0<=k) (h1:k+cnScene x<=1073741824):FnM Tryz.prog 14 DW.tScene x (mkScene x k) k (k+cnScene x):=by
 refine FnM.of (enters Tryz.func14 rfl rfl) (small_I64 (by omega) h1) fun w v cs fp hp hx hn hf=>?_
 obtain rfl:=pk_agg rfl hp
 obtain ⟨c0,c1,c2,c3,c4,c5,c6,rfl⟩:=list7 (RScene.len hx)
 exact markScene_any _ _ _ _ _ _ _ x k fp w hx hn hf h0 h1
@[go_sem] theorem mkScene_s0 (x:DScene) (k:Int):(mkScene x k).1=x.1:=(rfl)
@[go_sem] theorem mkScene_s1 (x:DScene) (k:Int):(mkScene x k).2.1=x.2.1:=(rfl)
theorem cnVecSS_le (x:DVecSS):cnVecSS x=2 * Go.Proofs.YtpdiggaapdhffaaGreat.tVecSS x:=by
 induction x with
 | nil=>rfl
 | cons y l ih=>rw [cnVecSS,ih,cnVecS_le,Go.Proofs.YtpdiggaapdhffaaGreat.tVecSS]; omega
end DW
theorem cnScene_le (x:DScene):cnScene x<=3 * tScene x:=by
 have h1:=DW.cnVecS_le x.2.2.1
 have h2:=DW.cnVecSS_le x.2.2.2.1
 have h3:=DW.cnVecS_le x.2.2.2.2
 unfold cnScene tScene
 omega
end Go.Proofs.YtpdiggaapdhffaaGreat
