/-
  Texts of a proof, one behind another: DwN, DwO, DwP, DwQ, DwR, Data, DwT, Br, OpensU, Dw1, Dw2, Num, NumB, Dw3, Dw4, Dw5, Flt, FltD, Dw6, Dw7, Dw8, Z, Dw9, Dw10, Dw11, Dw12, Dw13, Dw16, Dw18, Dw21, Dw14, Dw15, Cn, CnO, Dw22, Dw17, Dw28, DwV, Dw29, Dw30, Dw31, Dw32, Dw33, Dw34, Dw83.
-/
import Derived.Test.YtcbionahcldlnaaGreatProg
import Derived.Test.YtcbionahcldlnaaGreatRows
import Derived.Laws.FloatArith
import Derived.Test.YtcbionahcldlnaaGreatKUp2
set_option linter.all false
set_option maxRecDepth 100000
namespace Go.Proofs.YtcbionahcldlnaaGreat.DW
open Go.RowKit
section
variable {P:Program} {c:Cx} [Nonempty (CG P c)] {ops:List Oper}
theorem yield_sim {σ:St} {Γ:Asg} {a:Act} {w:World} (hs:Sim c σ Γ a w) {j g:Nat} {b:Bool} (hg:gslot ops j=some g) (hb:look σ.tmps g=some (.sc (.bool b))):yielded ops.toArray a.tmps j=some b:=by
 obtain ⟨u,h1,h2⟩:=hs.tm g _ hb
 have h2':u=.bool b:=h2.1
 subst h2'
 unfold gslot at hg
 simp only [yielded,List.getElem?_toArray,hg,Option.bind_some,h1]
theorem Went.step {σ0 σ:St} {o:Oper} {e:Eff} (h:Went P c ops σ0 o e) {Γ:Asg} {a:Act} {w:World} (hs:Sim c σ Γ a w) (ht:∀ t ∈ opnds o,look σ.tmps t=look σ0.tmps t)
  (hg:∀ j want g,o.guard=some (j,want)->gslot ops j=some g->look σ.tmps g=look σ0.tmps g) (hm:∀ k,k ∈ e.mems.map (·.1)++e.rd->look σ.mem k=look σ0.mem k)
  {K:Act->World->Prop} {Q:Exit->Act->World->Prop} (hK:∀ Γ' a' w',Sim c (σ.app o.dst e) Γ' a' w'->K a' w') :
  if Region.wanted o (yielded ops.toArray a.tmps) then o.wp P a w K Q else K (a.put o.dst undef) w:=by
 obtain ⟨hd,h⟩:=h
 have hsok:∀ nx,(∀ k,nx<=k->look σ0.mem k=none)->SOK P c (look σ0.tmps) (look σ0.mem) nx o e->o.wp P a w K Q:=by
  intro nx hnx ⟨h1,h2⟩
  refine h2 σ Γ a w hs ht (fun k hk=>hm k (List.mem_append.2 (.inr hk))) (fun p hp hn=>?_) hd K Q hK
  rw [hm p.1 (List.mem_append.2 (.inl (List.mem_map.2 ⟨p,hp,rfl⟩)))]
  exact hnx _ ((h1 p hp).resolve_right hn)
 split at h
 ·rename_i hgd
  obtain ⟨nx,hnx,hsk⟩:=h
  rw [if_pos (by simp [Region.wanted,hgd])]
  exact hsok nx hnx hsk
 ·rename_i j want hgd
  have hskip:e=.skip->Region.wanted o (yielded ops.toArray a.tmps)=false->(if Region.wanted o (yielded ops.toArray a.tmps) then o.wp P a w K Q else K (a.put o.dst undef) w):=by
   rintro rfl hw
   rw [hw,if_neg (by simp)]
   refine hK Γ _ _ ?_
   have:=hs.put (d:=o.dst) (v:=.tup []) (u:=undef) ⟨[],rfl,trivial⟩ (fun x hx=>hd x hx)
   unfold St.app
   cases hdst:o.dst<;>simp only [hdst,St.put,Eff.skip,List.nil_append] at this ⊢<;>exact this
  obtain ⟨g,h1,⟨b,h2,h3⟩|⟨⟨vs,h2⟩,rfl⟩⟩:=h
  rotate_left
  ·refine hskip rfl ?_
   have hnone:yielded ops.toArray a.tmps j=none:=by
    obtain ⟨u,g1,us,rfl,_⟩:=hs.tm g _ ((hg j want g hgd h1).trans h2)
    unfold gslot at h1
    simp only [yielded,List.getElem?_toArray,h1,Option.bind_some,g1]
   simp [Region.wanted,hgd,hnone]
  have hy:=yield_sim hs h1 ((hg j want g hgd h1).trans h2)
  rcases h3 with ⟨rfl,nx,hnx,hsk⟩|⟨rfl,rfl⟩
  ·rw [if_pos (by simp [Region.wanted,hgd,hy])]
   exact hsok nx hnx hsk
  ·exact hskip rfl (by simp [Region.wanted,hgd,hy])
theorem went_list {Q:Exit->Act->World->Prop}:∀ {os:List Oper} {es:List Eff} {σ:St} {Γ:Asg} {a:Act} {w:World},Went' P c ops σ os es->Sim c σ Γ a w->(∀ Γ' a' w',Sim c (runEs σ (os.zip es)) Γ' a' w'->Q .normal a' w')->wpList P ops.toArray Q os a w
 | [],_,σ,Γ,a,w,.nil _,hs,hQ=>hQ Γ a w hs
 | o :: os,e :: es,σ,Γ,a,w,.cons h1 h2,hs,hQ=>by
  refine wpList_step fun K hK=>?_
  exact h1.step hs (fun _ _=>rfl) (fun _ _ _ _ _=>rfl) (fun _ _=>rfl) fun Γ' a' w' hs'=>hK _ _ (went_list h2 hs' hQ)
def runF (f:Nat->Bool):Nat->St->List (Oper × Eff)->St
 | _,σ,[]=>σ
 | i,σ,(o,e) :: l=>runF f (i+1) (cond (f i) (σ.app o.dst e) σ) l
theorem app_tm {σ:St} {d:Option Nat} {e:Eff} {x:Nat} (h:d ≠ some x):look (σ.app d e).tmps x=look σ.tmps x:=by
 cases d with
 | none=>rfl
 | some d=>exact look_ne _ _ (fun hx=>h (by rw [hx]))
theorem look_not {L:Mm} {k:Nat} (h:k ∉ L.map (·.1)):look L k=none:=by
 cases hl:look L k with
 | none=>rfl
 | some B=>obtain ⟨q,hq,e⟩:=look_mem hl; exact absurd (List.mem_map.2 ⟨q,hq,e⟩) h
theorem app_mm {σ:St} {d:Option Nat} {e:Eff} {k:Nat}:look (σ.app d e).mem k=(look e.mems k).or (look σ.mem k):=by
 cases d<;>simp only [St.app,look_app]
theorem runF_tm {f f':Nat->Bool} {d:Nat}:∀ {l:List (Oper × Eff)} {i0:Nat} {σ σ':St},(∀ i o e,l[i]? = some (o,e)->o.dst=some d->f (i0+i)=f' (i0+i))->look σ.tmps d=look σ'.tmps d->look (runF f i0 σ l).tmps d=look (runF f' i0 σ' l).tmps d
 | [],_,_,_,_,h=>h
 | (o,e) :: l,i0,σ,σ',hf,h=>by
  show look (runF f (i0+1) _ l).tmps d=look (runF f' (i0+1) _ l).tmps d
  refine runF_tm (fun i o' e' hi ho=>by have:=hf (i+1) o' e' (by simpa using hi) ho; rw [show i0+1+i=i0+(i+1) by omega]; exact this) ?_
  have h0:=hf 0 o e rfl
  by_cases hd:o.dst=some d
  ·have h00:=h0 hd
   simp only [Nat.add_zero] at h00
   rw [h00]
   cases f' i0 with
   | false=>exact h
   | true=>simp only [cond_true,St.app,hd,look_self]
  ·have e1:∀ (b:Bool) (τ:St),look (cond b (τ.app o.dst e) τ).tmps d=look τ.tmps d:=by
    intro b τ; cases b with
    | false=>rfl
    | true=>exact app_tm hd
   rw [e1,e1]; exact h
theorem runF_mm {f f':Nat->Bool} {k:Nat}:∀ {l:List (Oper × Eff)} {i0:Nat} {σ σ':St},(∀ i o e,l[i]? = some (o,e)->k ∈ e.mems.map (·.1)->f (i0+i)=f' (i0+i))->look σ.mem k=look σ'.mem k->look (runF f i0 σ l).mem k=look (runF f' i0 σ' l).mem k
 | [],_,_,_,_,h=>h
 | (o,e) :: l,i0,σ,σ',hf,h=>by
  show look (runF f (i0+1) _ l).mem k=look (runF f' (i0+1) _ l).mem k
  refine runF_mm (fun i o' e' hi ho=>by have:=hf (i+1) o' e' (by simpa using hi) ho; rw [show i0+1+i=i0+(i+1) by omega]; exact this) ?_
  have h0:=hf 0 o e rfl
  by_cases hd:k ∈ e.mems.map (·.1)
  ·have h00:=h0 hd
   simp only [Nat.add_zero] at h00
   rw [h00]
   cases f' i0 with
   | false=>exact h
   | true=>simp only [cond_true,app_mm,h]
  ·have e1:∀ (b:Bool) (τ:St),look (cond b (τ.app o.dst e) τ).mem k=look τ.mem k:=by
    intro b τ; cases b with
    | false=>rfl
    | true=>simp only [cond_true,app_mm,look_not hd,Option.none_or]
   rw [e1,e1]; exact h
def Apart (d d':Option Nat) (e e':Eff):Prop:=(∀ x,d=some x->d' ≠ some x)/\∀ k ∈ e.mems.map (·.1),k ∉ e'.mems.map (·.1)
theorem app_comm {σ:St} {d d':Option Nat} {e e':Eff} (h:Apart d d' e e'):Same ((σ.app d e).app d' e') ((σ.app d' e').app d e):=by
 refine ⟨fun x=>?_,fun k=>?_⟩
 ·by_cases h1:d=some x
  ·subst h1
   have h2:=h.1 x rfl
   rw [app_tm (σ:=σ.app (some x) e) h2]
   simp only [St.app,look_self]
  ·rw [app_tm h1]
   by_cases h2:d'=some x
   ·subst h2; simp only [St.app,look_self]
   ·rw [app_tm h2,app_tm h2,app_tm h1]
 ·simp only [app_mm]
  by_cases hk:k ∈ e.mems.map (·.1)
  ·rw [look_not (h.2 k hk)]; simp
  ·rw [look_not hk]; simp
theorem Same.trans' {a b d:St} (h:Same a b) (k:Same b d):Same a d:=⟨fun x=>(k.1 x).trans (h.1 x),fun x=>(k.2 x).trans (h.2 x)⟩
theorem Same.rfl' {a:St}:Same a a:=⟨fun _=>rfl,fun _=>rfl⟩
theorem runF_same {f:Nat->Bool}:∀ {l:List (Oper × Eff)} {i0:Nat} {σ σ':St},Same σ σ'->Same (runF f i0 σ l) (runF f i0 σ' l)
 | [],_,_,_,h=>h
 | (o,e) :: l,i0,σ,σ',h=>by
  refine runF_same (l:=l) ?_
  cases f i0 with
  | false=>exact h
  | true=>exact app_same h _ _
theorem runF_app {f:Nat->Bool} {d:Option Nat} {e:Eff}:∀ {l:List (Oper × Eff)} {i0:Nat} {σ:St},(∀ i o e',l[i]? = some (o,e')->f (i0+i)=true->Apart d o.dst e e')->Same (runF f i0 (σ.app d e) l) ((runF f i0 σ l).app d e)
 | [],_,_,_=>Same.rfl'
 | (o,e') :: l,i0,σ,h=>by
  have ih:=fun τ=>runF_app (l:=l) (i0:=i0+1) (σ:=τ) (f:=f) (d:=d) (e:=e) (fun i o e' hi hf=>h (i+1) o e' (by simpa using hi) (by rw [show i0+(i+1)=i0+1+i by omega]; exact hf))
  simp only [runF]
  cases hf:f i0 with
  | false=>exact ih σ
  | true =>
   simp only [cond_true]
   exact (runF_same (app_comm (h 0 o e' rfl (by simpa using hf)))).trans' (ih _)
theorem runF_ins {f:Nat->Bool} {i:Nat} (hfi:f i=false):∀ {l:List (Oper × Eff)} {i0:Nat} {σ:St} {o:Oper} {e:Eff},i0<=i->l[i - i0]? = some (o,e)->(∀ j o' e',l[j]? = some (o',e')->f (i0+j)=true->i < i0+j->Apart o.dst o'.dst e e') →
  Same (runF (fun j=>f j || j == i) i0 σ l) ((runF f i0 σ l).app o.dst e)
 | [],_,_,_,_,_,h,_=>by simp at h
 | (o1,e1) :: l,i0,σ,o,e,hle,h,ha=>by
  simp only [runF]
  rcases Nat.lt_or_eq_of_le hle with hlt|rfl
  ·have hne:(i0 == i)=false:=by simp; omega
   rw [hne,Bool.or_false]
   refine runF_ins hfi (by omega) ?_ fun j o' e' hj hf hji=>ha (j+1) o' e' (by simpa using hj) (by rw [show i0+(j+1)=i0+1+j by omega]; exact hf) (by omega)
   rw [show i - i0=(i - (i0+1))+1 by omega] at h
   simpa using h
  ·simp only [Nat.sub_self,List.getElem?_cons_zero,Option.some.injEq,Prod.mk.injEq] at h
   obtain ⟨rfl,rfl⟩:=h
   rw [hfi]
   simp only [beq_self_eq_true,Bool.or_true,cond_true,cond_false]
   have h1:Same (runF (fun j=>f j || j == i0) (i0+1) (σ.app o1.dst e1) l) (runF f (i0+1) (σ.app o1.dst e1) l):=by
    refine ⟨fun d=>(runF_tm (fun j o' e' hj _=>?_) rfl).symm,fun k=>(runF_mm (fun j o' e' hj _=>?_) rfl).symm⟩<;>(have:(i0+1+j == i0)=false:=by simp; omega)<;>rw [this,Bool.or_false]
   exact h1.trans' (runF_app fun j o' e' hj hf=>ha (j+1) o' e' (by simpa using hj) (by rw [show i0+(j+1)=i0+1+j by omega]; exact hf) (by omega))
theorem went_at:∀ {os:List Oper} {es:List Eff} {σ:St} {i0:Nat},Went' P c ops σ os es->∀ i o e,(os.zip es)[i]? = some (o,e)->Went P c ops (runF (fun j=>decide (j < i0+i)) i0 σ (os.zip es)) o e
 | [],_,_,_,.nil _,i,o,e,h=>by simp at h
 | o1 :: os,e1 :: es,σ,i0,.cons h1 h2,i,o,e,h=>by
  cases i with
  | zero =>
   simp at h
   obtain ⟨rfl,rfl⟩:=h
   have h0:∀ (l:List (Oper × Eff)) (k:Nat),i0<=k->runF (fun j=>decide (j < i0+0)) k σ l=σ:=by
    intro l
    induction l with
    | nil=>intros; rfl
    | cons x l ih =>
     intro k hk
     have:decide (k < i0+0)=false:=by simp; omega
     simp only [runF,this,cond_false]
     exact ih _ (by omega)
   rw [h0 _ _ (Nat.le_refl _)]; exact h1
  | succ i =>
   have:=went_at (i0:=i0+1) h2 i o e (by simpa using h)
   simp only [List.zip_cons_cons,runF]
   have hd:decide (i0 < i0+(i+1))=true:=by simp
   rw [hd]
   simp only [cond_true]
   have he:(fun j=>decide (j < i0+(i+1)))=fun j=>decide (j < i0+1+i):=by funext j; congr 1; rw [show i0+(i+1)=i0+1+i by omega]
   rw [he]; exact this
end
def mask (acc:List Nat) (o:Oper):Nat:=o.after.toList.foldl (fun s e=>if Region.binds .any e then s ||| 2 ^ e.on ||| acc.getD e.on 0 else s) 0
def masks (ops:List Oper):List Nat:=ops.foldl (fun acc o=>acc++[mask acc o]) []
def rT (ops:List Oper) (o:Oper):List Nat:=opnds o++(match o.guard with|some (j,_)=>(gslot ops j).toList|none=>[])
def inter (a b:List Nat):Bool:=a.any fun x=>b.contains x
def confB (ops:List Oper) (o o':Oper) (t t':List Nat × List Nat):Bool :=
 (match o.dst with|some d=>(rT ops o').contains d || o'.dst == some d|none=>false) ||
 (match o'.dst with|some d=>(rT ops o).contains d|none=>false) || inter t.1 t'.2 || inter t'.1 t.2
def edgesOK (ops:List Oper):Bool:=ops.zipIdx.all fun x=>x.1.after.toList.all fun e=>!Region.binds .any e || decide (e.on < x.2)
def okTr (ops:List Oper) (tr:Tr):Bool :=
 edgesOK ops && (ops.zip tr).zipIdx.all fun y=>(ops.zip tr).zipIdx.all fun x=>!decide (x.2 < y.2) || !confB ops x.1.1 y.1.1 x.1.2 y.1.2 || ((masks ops).getD y.2 0).testBit x.2
theorem mask_len (ops:List Oper):(masks ops).length=ops.length:=by
 unfold masks
 have:∀ (l:List Oper) (acc:List Nat),(l.foldl (fun acc o=>acc++[mask acc o]) acc).length=acc.length+l.length:=by
  intro l
  induction l with
  | nil=>intro acc; rfl
  | cons o l ih=>intro acc; rw [List.foldl_cons,ih]; simp; omega
 simpa using this ops []
theorem mask_bit {acc:List Nat} {o:Oper} {i:Nat} (h:(mask acc o).testBit i=true):∃ e ∈ o.after.toList,Region.binds .any e=true/\(e.on=i\/(acc.getD e.on 0).testBit i=true):=by
 unfold mask at h
 have:∀ (l:List Edge) (s:Nat),(l.foldl (fun s e=>if Region.binds .any e then s ||| 2 ^ e.on ||| acc.getD e.on 0 else s) s).testBit i=true->s.testBit i=true\/∃ e ∈ l,Region.binds .any e=true/\(e.on=i\/(acc.getD e.on 0).testBit i=true):=by
  intro l
  induction l with
  | nil=>intro s h; exact .inl h
  | cons e l ih =>
   intro s h
   rw [List.foldl_cons] at h
   rcases ih _ h with h|⟨e',he',h⟩
   ·by_cases hb:Region.binds .any e=true
    ·rw [if_pos hb,Nat.testBit_or,Nat.testBit_or,Nat.testBit_two_pow] at h
     simp only [Bool.or_eq_true,decide_eq_true_eq] at h
     rcases h with (h|h)|h
     ·exact .inl h
     ·exact .inr ⟨e,List.mem_cons_self,hb,.inl h⟩
     ·exact .inr ⟨e,List.mem_cons_self,hb,.inr h⟩
    ·rw [if_neg hb] at h; exact .inl h
   ·exact .inr ⟨e',List.mem_cons_of_mem _ he',h⟩
 rcases this _ 0 h with h|h
 ·simp at h
 ·exact h
theorem masks_bit {ops:List Oper} {L:Nat->Bool} (hL:∀ j o,ops[j]? = some o->L j=true->∀ e ∈ o.after.toList,Region.binds .any e=true->L e.on=true) :
  ∀ (n j i:Nat) (o:Oper),n<=ops.length->j < n->ops[j]? = some o->(∀ e ∈ o.after.toList,Region.binds .any e=true->L e.on=true)->((masks (ops.take n)).getD j 0).testBit i=true->L i=true:=by
 intro n
 induction n with
 | zero=>intro j i o _ h; omega
 | succ n ih =>
  intro j i o hn hj ho he hb
  have ht:masks (ops.take (n+1))=masks (ops.take n)++[mask (masks (ops.take n)) ops[n]]:=by
   rw [List.take_succ_eq_append_getElem (by omega)]
   simp only [masks,List.foldl_append,List.foldl_cons,List.foldl_nil]
  have hlen:(masks (ops.take n)).length=n:=by rw [mask_len,List.length_take]; omega
  rw [ht] at hb
  rcases Nat.lt_or_ge j n with hjn|hjn
  ·rw [List.getD_eq_getElem?_getD,List.getElem?_append_left (by omega),<-List.getD_eq_getElem?_getD] at hb
   exact ih j i o (by omega) hjn ho he hb
  ·have:j=n:=by omega
   subst this
   rw [List.getD_eq_getElem?_getD,List.getElem?_append_right (by omega),hlen] at hb
   simp only [Nat.sub_self,List.getElem?_cons_zero,Option.getD_some] at hb
   have hoo:o=ops[j]:=by rw [List.getElem?_eq_getElem (by omega)] at ho; injection ho with ho; exact ho.symm
   subst hoo
   obtain ⟨e,hem,hbd,hor⟩:=mask_bit hb
   rcases hor with rfl|hor
   ·exact he e hem hbd
   ·have hLe:=he e hem hbd
    have hlt:e.on < j:=by
     rcases Nat.lt_or_ge e.on j with h|h
     ·exact h
     ·rw [List.getD_eq_getElem?_getD,List.getElem?_eq_none (by omega)] at hor; simp at hor
    exact ih e.on i ops[e.on] (by omega) hlt (List.getElem?_eq_getElem (by omega)) (hL e.on _ (List.getElem?_eq_getElem (by omega)) hLe) hor
section
variable {P:Program} {c:Cx} [Nonempty (CG P c)] {ops:List Oper}
theorem went_len:∀ {os:List Oper} {es:List Eff} {σ:St},Went' P c ops σ os es->es.length=os.length
 | [],_,_,.nil _=>rfl
 | _ :: _,_ :: _,_,.cons _ h=>by simp [went_len h]
theorem runF_all {f:Nat->Bool}:∀ {l:List (Oper × Eff)} {i0:Nat} {σ:St},(∀ i,i < l.length->f (i0+i)=true)->runF f i0 σ l=runEs σ l
 | [],_,_,_=>rfl
 | (o,e) :: l,i0,σ,h=>by
  have h0:=h 0 (by simp)
  simp only [Nat.add_zero] at h0
  simp only [runF,runEs,h0,cond_true]
  exact runF_all fun i hi=>by rw [show i0+1+i=i0+(i+1) by omega]; exact h _ (by simp; omega)
theorem okTr_conf {tr:Tr} (hok:okTr ops tr=true) {i j:Nat} {o o':Oper} {t t':List Nat × List Nat} (hij:i < j) (hi:ops[i]? = some o) (hj:ops[j]? = some o') (ti:tr[i]? = some t) (tj:tr[j]? = some t')
  (hc:confB ops o o' t t'=true):((masks ops).getD j 0).testBit i=true:=by
 simp only [okTr,Bool.and_eq_true] at hok
 have h2:=hok.2
 rw [List.all_eq_true] at h2
 have m1:((o',t'),j) ∈ (ops.zip tr).zipIdx:=List.mk_mem_zipIdx_iff_getElem?.2 (by rw [List.getElem?_zip_eq_some]; exact ⟨hj,tj⟩)
 have m2:((o,t),i) ∈ (ops.zip tr).zipIdx:=List.mk_mem_zipIdx_iff_getElem?.2 (by rw [List.getElem?_zip_eq_some]; exact ⟨hi,ti⟩)
 have h3:=h2 _ m1
 rw [List.all_eq_true] at h3
 have h4:=h3 _ m2
 simp only [hij,decide_true,Bool.not_true,Bool.false_or,hc] at h4
 exact h4
theorem okTr_edges {tr:Tr} (hok:okTr ops tr=true) {i:Nat} {o:Oper} (hi:ops[i]? = some o) {e:Edge} (he:e ∈ o.after.toList) (hb:Region.binds .any e=true):e.on < i:=by
 simp only [okTr,Bool.and_eq_true,edgesOK] at hok
 have h1:=hok.1
 rw [List.all_eq_true] at h1
 have:=h1 (o,i) (List.mk_mem_zipIdx_iff_getElem?.2 hi)
 rw [List.all_eq_true] at this
 have:=this e he
 simpa [hb] using this
theorem mem_ready {listed:Array Bool} {i:Nat}:i ∈ Region.ready .any ops.toArray listed ↔ i < ops.length/\listed.getD i true=false/\∃ o,ops[i]? = some o/\∀ e ∈ o.after.toList,Region.binds .any e=true->listed.getD e.on false=true:=by
 unfold Region.ready
 simp only [List.size_toArray,List.mem_filter,List.mem_range,Bool.and_eq_true,Bool.not_eq_true',List.getElem?_toArray]
 refine and_congr_right fun hi=>and_congr_right fun _=>?_
 rw [List.getElem?_eq_getElem hi]
 simp only [Option.map_some,Option.getD_some,Option.some.injEq,exists_eq_left']
 rw [<-Array.all_toList,List.all_eq_true]
 refine forall_congr' fun e=>?_
 refine imp_congr_right fun _=>?_
 cases hb:Region.binds .any e<;>simp
theorem inter_mem {a b:List Nat} {k:Nat} (h1:k ∈ a) (h2:k ∈ b):inter a b=true:=List.any_eq_true.2 ⟨k,h1,by simpa using h2⟩
def unl (n:Nat) (listed:Array Bool):List Nat:=(List.range n).filter fun i=>!listed.getD i true
theorem getD_set {a:Array Bool} {i j:Nat} {d:Bool} (hi:i < a.size):(a.setIfInBounds i true).getD j d=if j=i then true else a.getD j d:=by
 rw [Array.getD_eq_getD_getElem?,Array.getD_eq_getD_getElem?]
 by_cases h:j=i
 ·subst h; rw [Array.getElem?_setIfInBounds_self_of_lt hi]; simp
 ·rw [Array.getElem?_setIfInBounds_ne (Ne.symm h)]; simp [h]
theorem getD_d {a:Array Bool} {i:Nat} (h:i < a.size):a.getD i true=a.getD i false:=by
 rw [Array.getD_eq_getD_getElem?,Array.getD_eq_getD_getElem?,Array.getElem?_eq_getElem h]; rfl
theorem wpAny_went {Q:Exit->Act->World->Prop} {σ0:St} {es:List Eff} (hw:Went' P c ops σ0 ops es) (hok:okTr ops (es.map Eff.te)=true) (hQ:∀ Γ' a' w',Sim c (runEs σ0 (ops.zip es)) Γ' a' w'->Q .normal a' w') :
  ∀ (fuel:Nat) (listed:Array Bool) (a:Act) (w:World) (Γ:Asg),listed.size=ops.length->(∀ j o,ops[j]? = some o->listed.getD j false=true->∀ e ∈ o.after.toList,Region.binds .any e=true->listed.getD e.on false=true) →
   (unl ops.length listed).length<=fuel->Sim c (runF (fun i=>listed.getD i false) 0 σ0 (ops.zip es)) Γ a w->wpAny P .any ops.toArray Q fuel listed a w:=by
 have hlen:=went_len hw
 have hdone:∀ (listed:Array Bool) (a:Act) (w:World) (Γ:Asg),listed.size=ops.length->Sim c (runF (fun i=>listed.getD i false) 0 σ0 (ops.zip es)) Γ a w->Region.ready .any ops.toArray listed=[]->Q .normal a w:=by
  intro listed a w Γ hsz hs hr
  have hall:∀ i,i < ops.length->listed.getD i false=true:=by
   intro i
   induction i using Nat.strongRecOn with
   | _ i ih =>
    intro hi
    cases hl:listed.getD i false with
    | true=>rfl
    | false =>
     exfalso
     have:i ∈ Region.ready .any ops.toArray listed:=by
      refine mem_ready.2 ⟨hi,by rw [getD_d (by omega)]; exact hl,_,List.getElem?_eq_getElem hi,fun e he hb=>?_⟩
      have hlt:=okTr_edges hok (List.getElem?_eq_getElem hi) he hb
      exact ih _ hlt (by omega)
     rw [hr] at this; cases this
  rw [runF_all fun i hi=>by rw [Nat.zero_add]; exact hall i (by simp at hi; omega)] at hs
  exact hQ Γ a w hs
 intro fuel
 induction fuel with
 | zero =>
  intro listed a w Γ hsz hcl hun hs
  have hr:Region.ready .any ops.toArray listed=[]:=by
   refine List.eq_nil_iff_forall_not_mem.2 fun i hi=>?_
   obtain ⟨h1,h2,_⟩:=mem_ready.1 hi
   have:i ∈ unl ops.length listed:=List.mem_filter.2 ⟨List.mem_range.2 h1,by rw [h2]; rfl⟩
   rw [List.eq_nil_of_length_eq_zero (Nat.le_zero.1 hun)] at this
   cases this
  exact ⟨hr,hdone listed a w Γ hsz hs hr⟩
 | succ fuel ih =>
  intro listed a w Γ hsz hcl hun hs
  refine ⟨hdone listed a w Γ hsz hs,fun i hi=>?_⟩
  obtain ⟨h1,h2,o,ho,hedge⟩:=mem_ready.1 hi
  have hfi:listed.getD i false=false:=by rw [<-getD_d (by omega)]; exact h2
  have hie:i < es.length:=by omega
  have he:es[i]? = some es[i]:=List.getElem?_eq_getElem hie
  have hz:(ops.zip es)[i]? = some (o,es[i]):=by rw [List.getElem?_zip_eq_some]; exact ⟨ho,he⟩
  have hwent:=went_at (i0:=0) hw i o es[i] hz
  simp only [Nat.zero_add] at hwent
  have hte:(es.map Eff.te)[i]? = some es[i].te:=by rw [List.getElem?_map,he]; rfl
  have hbef:∀ j oj ej,(ops.zip es)[j]? = some (oj,ej)->j < i->confB ops oj o ej.te es[i].te=true->listed.getD j false=true:=by
   intro j oj ej hj hji hc
   rw [List.getElem?_zip_eq_some] at hj
   have hb:=okTr_conf hok hji hj.1 ho (by rw [List.getElem?_map,hj.2]; rfl) hte hc
   have:=masks_bit (L:=fun i=>listed.getD i false) hcl ops.length i j o (Nat.le_refl _) h1 ho hedge (by rw [List.take_length]; exact hb)
   exact this
  have haft:∀ j oj ej,(ops.zip es)[j]? = some (oj,ej)->i < j->confB ops o oj es[i].te ej.te=true->listed.getD j false=false:=by
   intro j oj ej hj hij hc
   rw [List.getElem?_zip_eq_some] at hj
   have hb:=okTr_conf hok hij ho hj.1 hte (by rw [List.getElem?_map,hj.2]; rfl) hc
   cases hl:listed.getD j false with
   | false=>rfl
   | true =>
    have hjl:=(List.getElem?_eq_some_iff.1 hj.1).1
    have:=masks_bit (L:=fun i=>listed.getD i false) hcl ops.length j i oj (Nat.le_refl _) hjl hj.1 (hcl j oj hj.1 hl) (by rw [List.take_length]; exact hb)
    rw [show listed.getD i false=true from this] at hfi; cases hfi
  have hagT:∀ d,d ∈ rT ops o->look (runF (fun i=>listed.getD i false) 0 σ0 (ops.zip es)).tmps d=look (runF (fun j=>decide (j < i)) 0 σ0 (ops.zip es)).tmps d:=by
   intro d hd
   refine runF_tm (fun j oj ej hj hdj=>?_) rfl
   rw [Nat.zero_add]
   rcases Nat.lt_trichotomy j i with hji|rfl|hij
   ·rw [hbef j oj ej hj hji (by simp [confB,hdj,hd])]; simp [hji]
   ·rw [hfi]; simp
   ·rw [haft j oj ej hj hij (by simp [confB,hdj,hd])]; simp; omega
  have hagM:∀ k,k ∈ es[i].mems.map (·.1)++es[i].rd->look (runF (fun i=>listed.getD i false) 0 σ0 (ops.zip es)).mem k=look (runF (fun j=>decide (j < i)) 0 σ0 (ops.zip es)).mem k:=by
   intro k hk
   refine runF_mm (fun j oj ej hj hkj=>?_) rfl
   rw [Nat.zero_add]
   have hin:inter ej.te.1 es[i].te.2=true:=inter_mem hkj hk
   rcases Nat.lt_trichotomy j i with hji|rfl|hij
   ·rw [hbef j oj ej hj hji (by simp [confB,hin])]; simp [hji]
   ·rw [hfi]; simp
   ·rw [haft j oj ej hj hij (by simp [confB,hin])]; simp; omega
  have hins:=runF_ins (f:=fun i=>listed.getD i false) hfi (l:=ops.zip es) (i0:=0) (σ:=σ0) (Nat.zero_le _) hz fun j oj ej hj hf hij=>by
   rw [Nat.zero_add] at hf hij
   refine ⟨fun x hx hx'=>?_,fun k hk hk'=>?_⟩
   ·have:=haft j oj ej hj hij (by simp [confB,hx,hx'])
    rw [hf] at this; cases this
   ·have hin:inter es[i].te.1 ej.te.2=true:=inter_mem hk (List.mem_append.2 (.inl hk'))
    have:=haft j oj ej hj hij (by simp [confB,hin])
    rw [hf] at this; cases this
  unfold wpOp
  rw [List.getElem?_toArray,ho]
  simp only
  have hnext:∀ Γ' a' w',Sim c ((runF (fun i=>listed.getD i false) 0 σ0 (ops.zip es)).app o.dst es[i]) Γ' a' w'->wpAny P .any ops.toArray Q fuel (listed.setIfInBounds i true) a' w':=by
   intro Γ' a' w' hs'
   refine ih _ a' w' Γ' (by simp [hsz]) (fun j oj hj hl e he' hb=>?_) ?_ ?_
   ·rw [getD_set (by omega)]
    rw [getD_set (by omega)] at hl
    split
    ·rfl
    ·by_cases hji:j=i
     ·subst hji
      rw [ho] at hj; injection hj with hj; subst hj
      exact hedge e he' hb
     ·rw [if_neg hji] at hl
      exact hcl j oj hj hl e he' hb
   ·have hsub:unl ops.length (listed.setIfInBounds i true)=(unl ops.length listed).filter fun j=>!(listed.setIfInBounds i true).getD j true:=by
     unfold unl
     rw [List.filter_filter]
     refine List.filter_congr fun j _=>?_
     rw [getD_set (by omega)]
     by_cases hji:j=i
     ·simp [hji]
     ·simp [hji]
    have hlt:(unl ops.length (listed.setIfInBounds i true)).length < (unl ops.length listed).length:=by
     rw [hsub]
     refine List.length_filter_lt_length_iff_exists.2 ⟨i,List.mem_filter.2 ⟨List.mem_range.2 h1,by rw [h2]; rfl⟩,?_⟩
     rw [getD_set (by omega)]; simp
    omega
   ·refine hs'.same (Same.trans' ⟨fun d=>(hins.1 d).symm,fun k=>(hins.2 k).symm⟩ ?_)
    have:(fun j=>listed.getD j false || j == i)=fun j=>(listed.setIfInBounds i true).getD j false:=by
     funext j
     rw [getD_set (by omega)]
     by_cases hji:j=i
     ·simp [hji]
     ·simp [hji]
    rw [this]; exact Same.rfl'
  have hstep:=hwent.step (Q:=Q) (K:=wpAny P .any ops.toArray Q fuel (listed.setIfInBounds i true)) hs (fun t ht=>hagT t (List.mem_append.2 (.inl ht))) (fun j want g hg hgs=>hagT g (List.mem_append.2 (.inr (by rw [hg]; simp [hgs])))) hagM hnext
  split
  ·rename_i hwt; rw [if_pos hwt] at hstep; exact .inl hstep
  ·rename_i hwt; rw [if_neg hwt] at hstep; exact hstep
theorem region_draw {Q:Exit->Act->World->Prop} {T:TypeId->Option Ty} (hT:TabOK P T) (hmix:P.follows .mixedOrders=true) {id:Nat} {σ:St} {Γ:Asg} {a:Act} {w:World} (hs:Sim c σ Γ a w) {QA:St->Prop}
  (h:AO P T c.n ops ops σ [] fun σ' tr=>okTr ops tr=true/\QA σ') (hQ:∀ σ' Γ' a' w',QA σ'->Sim c σ' Γ' a' w'->Q .normal a' w'):(Code.region id ops.toArray true).wp P Q a w:=by
 obtain ⟨es,σ',h1,⟨h2,h3⟩,h4⟩:=AO_went hT h Same.rfl'
 simp only [List.nil_append] at h2
 refine wp_region_any hmix ?_
 have hs':Sim c σ Γ a { w with drawn:=w.drawn+1 }:=hs.frame ⟨rfl,rfl,rfl,Nat.le_refl _,fun _ _=>rfl⟩
 refine wpAny_went h1 h2 (fun Γ' a' w' hs'=>hQ σ' Γ' a' w' h3 (hs'.same h4)) _ _ a _ Γ (by simp) (fun j o _ hl=>?_) ?_ ?_
 ·rw [Array.getD_eq_getD_getElem?] at hl
  by_cases hj:j < ops.length
  ·simp [hj] at hl
  ·simp [hj] at hl
 ·unfold unl
  refine Nat.le_trans (List.length_filter_le _ _) (by simp)
 ·have:∀ (l:List (Oper × Eff)) (k:Nat) (τ:St),runF (fun i=>(Array.replicate ops.toArray.size false).getD i false) k τ l=τ:=by
   intro l
   induction l with
   | nil=>intros; rfl
   | cons x l ih =>
    intro k τ
    have hf:(Array.replicate ops.toArray.size false).getD k false=false:=by
     rw [Array.getD_eq_getD_getElem?]
     by_cases hk:k < ops.length<;>simp [hk]
    simp only [runF,hf,cond_false]
    exact ih _ _
  rw [this]; exact hs'
theorem region_text {Q:Exit->Act->World->Prop} {T:TypeId->Option Ty} (hT:TabOK P T) {id:Nat} {σ:St} {Γ:Asg} {a:Act} {w:World} (hs:Sim c σ Γ a w) {QA:St->Prop}
  (h:AO P T c.n ops ops σ [] fun σ' _=>QA σ') (hQ:∀ σ' Γ' a' w',QA σ'->Sim c σ' Γ' a' w'->Q .normal a' w'):(Code.region id ops.toArray false).wp P Q a w:=by
 obtain ⟨es,σ',h1,h3,h4⟩:=AO_went hT h Same.rfl'
 exact wp_region_lit (went_list h1 hs fun Γ' a' w' hs'=>hQ σ' Γ' a' w' h3 (hs'.same h4))
end
def nrow (B:Option Blk) (p:Prop):Prop:=match B with
 | some (.row ..)=>p
 | _=>True
section
variable (σm τm:Nat->Option Blk) (ρ:Nat->Nat) (rng:List Nat)
def LeC (u v:AV):Prop :=
 match v with
 | .sc x=>u=.sc x
 | .sl t l=>(u.data σm=some ⟨t,l⟩/\∀ k ∈ u.rows,nrow (σm k) (k ∉ rng))\/(u=.sc (.slice none 0 0)/\l=[])
 | .row k ver =>
  match τm k,u with
  | some (.row _ _ v _ _),.row k0 ver0=>k0=ρ k/\v=ver/\(match σm k0 with|some (.row _ _ v0 _ _)=>v0=ver0|_=>False)
  | some (.odat _ _),.row k0 ver0=>k0=ρ k/\ver=0/\ver0=0
  | some (.mine _ _),.row k0 ver0=>k0=ρ k/\ver=0/\ver0=0
  | some (.ob _ v _),.row k0 ver0=>k0=ρ k/\v=ver/\(match σm k0 with|some (.ob _ v0 _)=>v0=ver0|some (.row _ _ v0 _ _)=>v0=ver0|_=>False)
  | some (.bx _ _),.row k0 ver0=>k0=ρ k/\ver=ver0
  | _,_=>False
 | .ptr k off=>u=.ptr (ρ k) off/\∃ x cs,τm k=some (.bx x cs)
 | .ref t x off=>u=.ref t x off/\rng=rng
 | .ex e t x=>u=.ex e t x/\rng=rng
 | .fx v t l=>u=.fx v t l/\rng=rng
 | .clb f ks =>
  match u with
  | .clb f0 ks0=>f0=f/\All2 (fun k0 k=>k0=ρ k/\∃ x cs,τm k=some (.bx x cs)) ks0 ks
  | _=>False
 | _=>False
def LeA (u v:AV):Prop :=
 match v with
 | .agg cs=>match u with
  | .agg cs0=>All2 (LeC σm τm ρ rng) cs0 cs
  | _=>False
 | v=>LeC σm τm ρ rng u v
def LeV (u v:AV):Prop :=
 match v with
 | .junk=>True
 | .tup vs=>match u with
  | .tup us=>All2 (LeA σm τm ρ rng) us vs
  | _=>False
 | v=>LeA σm τm ρ rng u v
def wkT (σ:Tm):Tm->Prop
 | []=>True
 | (d,v) :: l=>(match look σ d with|some u=>LeV σm τm ρ rng u v|none=>False)/\wkT σ l
def wkB (k:Nat) (B:Blk):Prop :=
 match B with
 | .row e t _ o l=>match σm (ρ k) with
  | some (.row e0 t0 _ o0 l0)=>e0=e/\(⟨t0,l0⟩:Lst)=⟨t,l⟩/\(o=true->o0=true)
  | _=>False
 | .odat t l=>match σm (ρ k) with
  | some (.odat t0 l0)=>(⟨t0,l0⟩:Lst)=⟨t,l⟩
  | _=>False
 | .mine t l=>match σm (ρ k) with
  | some (.mine t0 l0)=>(⟨t0,l0⟩:Lst)=⟨t,l⟩
  | _=>False
 | .bx x cs=>match σm (ρ k) with
  | some (.bx x0 cs0)=>x0=x/\All2 (LeC σm τm ρ rng) cs0 cs
  | _=>False
 | .ob x _ d=>match σm (ρ k) with
  | some (.ob x0 _ d0)=>x0=x/\d0=d
  | some (.row e0 t0 _ _ l0)=>x=none/\d=.que e0 t0 l0/\t0.flat=true/\l0 ≠ []
  | _=>False
 | _=>False
def wkM:Mm->Prop
 | []=>True
 | (k,B) :: l=>wkB σm τm ρ rng k B/\wkM l
end
def ren (L:List (Nat × Nat)) (k:Nat):Nat:=(look L k).getD k
def Wk0 (σ τ:St):Prop :=
 ∃ L:List (Nat × Nat),((τ.mem.map fun p=>ren L p.1).Nodup)/\wkT (look σ.mem) (look τ.mem) (ren L) (τ.mem.map fun p=>ren L p.1) σ.tmps τ.tmps/\wkM (look σ.mem) (look τ.mem) (ren L) (τ.mem.map fun p=>ren L p.1) τ.mem
inductive NilTo:St->St->Prop where
 | refl (σ:St):NilTo σ σ
 | box {σ τ:St} (k j n:Nat) (e:TypeId) (t:Ty) {x:Option Nat} {cs:List AV} (h1:look σ.mem k=some (.bx x cs)) (h2:cs[j]? = some (.sc (.slice none 0 0))) (h3:look σ.mem n=none) (h:NilTo ⟨σ.tmps,(k,.bx x (cs.set j (.row n 0))) :: (n,.row e t 0 true []) :: σ.mem⟩ τ):NilTo σ τ
 | conv {σ σ1 τ:St} (h0:∀ {c:Cx} {Γ:Asg} {a:Act} {w:World},Sim c σ Γ a w->∃ Γ',Sim c σ1 Γ' a w) (h:NilTo σ1 τ):NilTo σ τ
 | slot {σ τ:St} (d n:Nat) (e:TypeId) (t:Ty) (h1:look σ.tmps d=some (.sc (.slice none 0 0))) (h3:look σ.mem n=none) (h:NilTo ⟨(d,.row n 0) :: σ.tmps,(n,.row e t 0 true []) :: σ.mem⟩ τ):NilTo σ τ
def Wk (σ τ:St):Prop:=∃ σ',NilTo σ σ'/\Wk0 σ' τ
section
variable {c:Cx} {σ τ:St} {Γ:Asg} {a:Act} {w:World} {ρ:Nat->Nat} {rng:List Nat}
def Asg.ren (Γ:Asg) (ρ:Nat->Nat):Asg:=⟨fun k=>Γ.β (ρ k),fun k=>Γ.hd (ρ k),fun k=>Γ.fp (ρ k)⟩
theorem wkM_get {σm τm:Nat->Option Blk}:∀ {M:Mm} {k:Nat} {B:Blk},wkM σm τm ρ rng M->look M k=some B->wkB σm τm ρ rng k B
 | [],_,_,_,h=>by cases h
 | (j,C) :: M,k,B,⟨h1,h2⟩,h=>by
  simp only [look] at h
  split at h
  ·rename_i e; injection h with h; subst h e; exact h1
  ·exact wkM_get h2 h
theorem wkT_get {σm τm:Nat->Option Blk} {σt:Tm}:∀ {M:Tm} {k:Nat} {v:AV},wkT σm τm ρ rng σt M->look M k=some v->∃ u,look σt k=some u/\LeV σm τm ρ rng u v
 | [],_,_,_,h=>by cases h
 | (j,C) :: M,k,v,⟨h1,h2⟩,h=>by
  simp only [look] at h
  split at h
  ·rename_i e; injection h with h; subst h e
   split at h1
   ·rename_i u hu; exact ⟨u,hu,h1⟩
   ·exact h1.elim
  ·exact wkT_get h2 h
theorem wk_mut {B:Blk} {k b:Nat} (hB:wkB (look σ.mem) (look τ.mem) ρ rng k B) (hm:B.mut (Γ.ren ρ) k b):∃ B0,look σ.mem (ρ k)=some B0/\B0.mut Γ (ρ k) b:=by
 unfold wkB at hB
 split at hB
 ·split at hB
  ·rename_i h0; exact ⟨_,h0,hm⟩
  ·exact hB.elim
 ·exact hm.elim
 ·split at hB
  ·rename_i h0; exact ⟨_,h0,hm⟩
  ·exact hB.elim
 ·split at hB
  ·rename_i h0; obtain ⟨rfl,_⟩:=hB; exact ⟨_,h0,hm⟩
  ·exact hB.elim
 ·split at hB
  ·rename_i h0; obtain ⟨rfl,rfl⟩:=hB; exact ⟨_,h0,hm⟩
  ·rename_i h0
   obtain ⟨rfl,rfl,_⟩:=hB
   exact ⟨_,h0,hm⟩
  ·exact hB.elim
 ·exact hB.elim
theorem wk_Gd (hM:wkM (look σ.mem) (look τ.mem) ρ rng τ.mem) {b:Nat} (hg:Gd c σ.mem Γ b):Gd c τ.mem (Γ.ren ρ) b :=
 ⟨hg.1,fun ⟨k,B,hk,hm⟩=>by
  obtain ⟨B0,h1,h2⟩:=wk_mut (wkM_get hM hk) hm
  exact hg.2 ⟨_,B0,h1,h2⟩⟩
theorem All2.imp2 {α β γ:Type} {R:α->γ->Prop} {Q:α->β->Prop} {R':β->γ->Prop}:∀ {l:List α} {m:List β} {n:List γ},(∀ a b x,R a x->Q a b->R' b x)->All2 R l n->All2 Q l m->All2 R' m n
 | [],[],[],_,_,_=>trivial
 | _ :: _,_ :: _,_ :: _,h,⟨h1,h2⟩,⟨h3,h4⟩=>⟨h _ _ _ h1 h3,All2.imp2 h h2 h4⟩
 | [],_ :: _,_,_,_,h=>h.elim
 | _ :: _,[],_,_,_,h=>h.elim
 | [],[],_ :: _,_,h,_=>h.elim
 | _ :: _,_ :: _,[],_,h,_=>h.elim
theorem wk_crep (hs:Sim c σ Γ a w) (hrng:rng=τ.mem.map fun p=>ρ p.1) (hM:wkM (look σ.mem) (look τ.mem) ρ rng τ.mem) {u v:AV} {x:Value} (hu:CRep c σ.mem Γ w u x) (hle:LeC (look σ.mem) (look τ.mem) ρ rng u v):CRep c τ.mem (Γ.ren ρ) w v x:=by
 cases v with
 | sc y=>obtain rfl:u=.sc y:=hle; exact hu
 | sl t l =>
  rcases hle with ⟨hd,hr⟩|⟨rfl,rfl⟩
  ·by_cases hrow:∃ k ver e v' o' l',u=.row k ver/\look σ.mem k=some (.row e t v' o' l')
   ·obtain ⟨k,ver,e,v',o',l',rfl,hk⟩:=hrow
    have hd':=hd
    simp only [AV.data,hk,Option.bind_some,Blk.data] at hd'
    split at hd'
    ·rename_i hvv
     injection hd' with hd'; injection hd' with _ d2
     obtain rfl:=d2
     obtain ⟨fps,hg,hf,hgd,_⟩:=hs.mm k _ hk
     obtain ⟨_,B,hB,hbh⟩:=hu
     rw [hk] at hB; injection hB with hB; subst hB
     rw [hbh.2 hvv]
     obtain ⟨fp,hrep,hfp⟩:=growR_rep hg
     refine ⟨fp,hrep,fun b hb=>?_⟩
     rcases hfp with rfl|⟨g,hgo,rfl,hbg,_⟩
     ·cases hb
     ·rcases List.mem_cons.1 hb with rfl|hb
      ·refine ⟨hbg.gd,fun ⟨j,B,hj,hm⟩=>?_⟩
       obtain ⟨B0,h1,h2⟩:=wk_mut (wkM_get hM hj) hm
       have:=hs.inj _ _ _ _ b h1 hk h2 hgo
       have hr1:=hr k (by simp [AV.rows])
       rw [hk] at hr1
       refine hr1 ?_
       rw [hrng,<-this]
       obtain ⟨q,hq,e⟩:=look_mem hj
       exact List.mem_map.2 ⟨q,hq,by rw [e]⟩
      ·exact wk_Gd hM (hgd b (hf ▸ hb))
    ·cases hd'
   ·obtain ⟨fp,hrep,_,hg⟩:=hs.sliceRep hu hd
    refine ⟨fp,hrep,fun b hb=>wk_Gd hM (hg (fun k ver e e' t' v' o' l' hk=>?_) b hb)⟩
    subst e
    have hd2:=hd
    simp only [AV.data,hk,Option.bind_some,Blk.data] at hd2
    split at hd2
    ·injection hd2 with hd2; injection hd2 with d1 d2
     subst d1
     exact hrow ⟨k,ver,e',v',o',l',rfl,hk⟩
    ·cases hd2
  ·obtain ⟨rfl,_⟩:=hu
   exact ⟨[],⟨none,0,rfl,Nat.le_refl _,Nat.zero_le _,.inl ⟨rfl,rfl⟩⟩,fun b hb=>by cases hb⟩
 | row k ver =>
  unfold LeC at hle
  simp only at hle
  split at hle
  ·rename_i e t v' o l k0 ver0 hk
   obtain ⟨rfl,rfl,hle⟩:=hle
   split at hle
   ·rename_i e0 t0 v0 o0 l0 hk0
    subst hle
    obtain ⟨h1,B,hB,hh⟩:=hu
    rw [hk0] at hB; injection hB with hB; subst hB
    exact ⟨h1,_,hk,Nat.le_refl _,fun _=>hh.2 rfl⟩
   ·exact hle.elim
  ·rename_i t l k0 ver0 hk
   obtain ⟨rfl,rfl,rfl⟩:=hle
   have hwb:=wkM_get hM hk
   simp only [wkB] at hwb
   split at hwb
   ·rename_i t0 l0 hk0
    obtain ⟨h1,B,hB,hh⟩:=hu
    rw [hk0] at hB; injection hB with hB; subst hB
    exact ⟨h1,_,hk,fun _=>hh rfl⟩
   ·exact hwb.elim
  ·rename_i t l k0 ver0 hk
   obtain ⟨rfl,rfl,rfl⟩:=hle
   have hwb:=wkM_get hM hk
   simp only [wkB] at hwb
   split at hwb
   ·rename_i t0 l0 hk0
    obtain ⟨h1,B,hB,hh⟩:=hu
    rw [hk0] at hB; injection hB with hB; subst hB
    exact ⟨h1,_,hk,fun _=>hh rfl⟩
   ·exact hwb.elim
  ·rename_i xo v' d k0 ver0 hk
   obtain ⟨rfl,rfl,hle⟩:=hle
   have hwb:=wkM_get hM hk
   obtain ⟨h1,B,hB,hh⟩:=hu
   split at hle
   ·rename_i x0 v0 d0 hk0
    subst hle
    rw [hk0] at hB; injection hB with hB; subst hB
    simp only [wkB,hk0] at hwb
    obtain ⟨rfl,_⟩:=hwb
    exact ⟨h1,_,hk,Nat.le_refl _,fun _=>hh.2 rfl⟩
   ·rename_i e0 t0 v0 o0 l0 hk0
    subst hle
    rw [hk0] at hB; injection hB with hB; subst hB
    simp only [wkB,hk0] at hwb
    obtain ⟨rfl,_⟩:=hwb
    exact ⟨h1,_,hk,Nat.le_refl _,fun _=>hh.2 rfl⟩
   ·exact hle.elim
  ·rename_i xo cs k0 ver0 hk
   obtain ⟨rfl,rfl⟩:=hle
   have hwb:=wkM_get hM hk
   obtain ⟨h1,B,hB,hh⟩:=hu
   simp only [wkB,hB] at hwb
   cases B with
   | bx x0 cs0 =>
    obtain ⟨rfl,_⟩:=hwb
    exact ⟨h1,_,hk,hh⟩
   | _=>exact hwb.elim
  ·exact hle.elim
 | ptr k off =>
  obtain ⟨rfl,xo,cs,hk⟩:=hle
  obtain ⟨xo',cs',hq,rfl⟩:=hu
  have hwb:=wkM_get hM hk
  simp only [wkB,hq] at hwb
  obtain ⟨rfl,_⟩:=hwb
  exact ⟨_,cs,hk,rfl⟩
 | fx y t l =>
  obtain ⟨rfl,_⟩:=hle
  obtain ⟨e,fp,hr,hg⟩:=hu
  exact ⟨e,fp,hr,fun b hb=>wk_Gd hM (hg b hb)⟩
 | ex e t y =>
  obtain ⟨rfl,_⟩:=hle
  obtain ⟨fp,hr,hg⟩:=hu
  exact ⟨fp,hr,fun b hb=>wk_Gd hM (hg b hb)⟩
 | ref t y off =>
  obtain ⟨rfl,_⟩:=hle
  obtain ⟨b,o,cs,fp,rfl,hr,hc,hgb,hg,hl⟩:=hu
  exact ⟨b,o,cs,fp,rfl,hr,hc,wk_Gd hM hgb,fun b' hb'=>wk_Gd hM (hg b' hb'),hl⟩
 | clb f ks =>
  cases u with
  | clb f0 ks0 =>
   obtain ⟨rfl,hall⟩:=hle
   obtain ⟨us,rfl,hus⟩:=hu
   refine ⟨us,rfl,All2.imp2 (fun k0 k p hR hQ=>?_) hus hall⟩
   obtain ⟨rfl,xo,cs,hk⟩:=hQ
   obtain ⟨xo',cs',hq,rfl⟩:=hR
   have hwb:=wkM_get hM hk
   simp only [wkB,hq] at hwb
   obtain ⟨rfl,_⟩:=hwb
   exact ⟨_,cs,hk,rfl⟩
  | _=>exact hle.elim
 | _=>exact hle.elim
def AV.isCell:AV->Bool
 | .junk|.agg _|.tup _=>false
 | _=>true
theorem LeC_cell {σm τm:Nat->Option Blk} {u v:AV} (h:LeC σm τm ρ rng u v):u.isCell=true:=by
 cases v with
 | sc x=>obtain rfl:u=.sc x:=h; rfl
 | sl t l =>
  rcases h with ⟨h,_⟩|⟨rfl,_⟩
  ·cases u<;>first|rfl|cases h
  ·rfl
 | row k ver =>
  unfold LeC at h
  simp only at h
  split at h
  ·rfl
  ·rfl
  ·rfl
  ·rfl
  ·rfl
  ·exact h.elim
 | ptr k off=>obtain ⟨rfl,_⟩:=h; rfl
 | ref t x off=>obtain ⟨rfl,_⟩:=h; rfl
 | ex e t x=>obtain ⟨rfl,_⟩:=h; rfl
 | fx v t l=>obtain ⟨rfl,_⟩:=h; rfl
 | clb f ks =>
  cases u with
  | clb f0 ks0=>rfl
  | _=>exact h.elim
 | _=>exact h.elim
theorem arep_cell {M:Mm} {u:AV} {x:Value} (h:ARep c M Γ w u x) (hc:u.isCell=true):CRep c M Γ w u x:=by
 cases u<;>first|exact h|cases hc
theorem vrep_cell {M:Mm} {u:AV} {x:Value} (h:VRep c M Γ w u x) (hc:u.isCell=true):CRep c M Γ w u x:=by
 cases u<;>first|exact h|cases hc
theorem nodup_inj {α β:Type} {f:α->β}:∀ {l:List α},(l.map f).Nodup->∀ {x y:α},x ∈ l->y ∈ l->f x=f y->x=y
 | [],_,_,_,h,_,_=>by cases h
 | z :: l,hn,x,y,hx,hy,e=>by
  rw [List.map_cons,List.nodup_cons] at hn
  rcases List.mem_cons.1 hx with e1|h1<;>rcases List.mem_cons.1 hy with e2|h2
  ·rw [e1,e2]
  ·exact (hn.1 (List.mem_map.2 ⟨y,h2,by rw [<-e,e1]⟩)).elim
  ·exact (hn.1 (List.mem_map.2 ⟨x,h1,by rw [e,e2]⟩)).elim
  ·exact nodup_inj hn.2 h1 h2 e
theorem wk_ofp {B:Blk} {k b:Nat} (hB:wkB (look σ.mem) (look τ.mem) ρ rng k B) (hm:b ∈ B.ofp (Γ.ren ρ) k):∃ B0,look σ.mem (ρ k)=some B0/\b ∈ B0.ofp Γ (ρ k):=by
 unfold wkB at hB
 split at hB
 ·rename_i e t v o l
  split at hB
  ·rename_i h0
   cases o with
   | false=>simp [Blk.ofp] at hm
   | true=>exact ⟨_,h0,by rw [hB.2.2 rfl]; exact hm⟩
  ·exact hB.elim
 ·split at hB
  ·rename_i h0; exact ⟨_,h0,hm⟩
  ·exact hB.elim
 ·simp [Blk.ofp] at hm
 ·simp [Blk.ofp] at hm
 ·simp [Blk.ofp] at hm
 ·exact hB.elim
theorem que_of {c:Cx} {w:World} {e:TypeId} {t:Ty} {v:Value} {l:List t.den} {fps:List (List Nat)} (hg:GrowR c t w e v l fps) (hf:t.flat=true) (hne:l ≠ []):∃ b o,oblk (.que e t l) v=some b/\Ho c none b/\w.heap[b]? = some o/\(ObD.que e t l).I v o:=by
 obtain ⟨⟨xs,ho,hl,he⟩,hR⟩:=hg
 rcases ho.2 with ⟨_,h0⟩|⟨g,cap,cur,rfl,hb,hgg,h1,h2,h3,h4⟩
 ·exact absurd (List.eq_nil_of_length_eq_zero h0) hne
 ·refine ⟨g,_,rfl,hR g rfl,hgg,g,0,cap,cur,rfl,rfl,h1,h2,by omega,fun w' i x hx=>?_⟩
  obtain ⟨f,cs,_,hr,hc⟩:=he i x hx
  have h5:=flat_rep hf hr
  subst h5
  refine ⟨cs,t.rp.frame hr (fun b hb=>by cases hb),fun j u hj=>?_⟩
  have:=hc j u hj
  rw [<-h4,List.getElem?_take] at this
  split at this
  ·rw [Nat.zero_add]; exact this
  ·cases this
theorem wk_sim0 (hs:Sim c σ Γ a w) (h:Wk0 σ τ):∃ Γ',Sim c τ Γ' a w:=by
 obtain ⟨L,hnd,hT,hM⟩:=h
 generalize hrng:(τ.mem.map fun p=>ren L p.1)=rng at hnd hT hM
 have hrng':=hrng.symm
 have hcr:∀ (u v:AV) (x:Value),CRep c σ.mem Γ w u x->LeC (look σ.mem) (look τ.mem) (ren L) rng u v->CRep c τ.mem (Γ.ren (ren L)) w v x:=fun _ _ _ h1 h2=>wk_crep hs hrng' hM h1 h2
 have har:∀ (u v:AV) (x:Value),ARep c σ.mem Γ w u x->LeA (look σ.mem) (look τ.mem) (ren L) rng u v->ARep c τ.mem (Γ.ren (ren L)) w v x:=by
  intro u v x h1 h2
  cases v with
  | agg cs =>
   cases u with
   | agg cs0=>obtain ⟨us,rfl,h1⟩:=h1; exact ⟨us,rfl,All2.imp2 hcr h1 h2⟩
   | _=>exact h2.elim
  | _ =>
   simp only [LeA] at h2
   have h3:=hcr _ _ x (arep_cell h1 (LeC_cell h2)) h2
   simp only [ARep]; exact h3
 have hvr:∀ (u v:AV) (x:Value),VRep c σ.mem Γ w u x->LeV (look σ.mem) (look τ.mem) (ren L) rng u v->VRep c τ.mem (Γ.ren (ren L)) w v x:=by
  intro u v x h1 h2
  cases v with
  | junk=>trivial
  | tup vs =>
   cases u with
   | tup us0=>obtain ⟨us,rfl,h1⟩:=h1; exact ⟨us,rfl,All2.imp2 har h1 h2⟩
   | _=>exact h2.elim
  | agg cs =>
   cases u with
   | agg cs0=>exact har (.agg cs0) (.agg cs) x h1 h2
   | _=>exact h2.elim
  | _ =>
   simp only [LeV,LeA] at h2
   have h3:=hcr _ _ x (vrep_cell h1 (LeC_cell h2)) h2
   simp only [VRep,ARep]; exact h3
 refine ⟨Γ.ren (ren L),fun d v hd=>?_,fun k B hk=>?_,fun k k' B B' b hk hk' hb hb'=>?_,fun k k' B B' b hk hk' hne hb hb'=>?_,hs.below,hs.hb,hs.defs,hs.sz⟩
 ·obtain ⟨u,h1,h2⟩:=wkT_get hT hd
  obtain ⟨x,h3,h4⟩:=hs.tm d u h1
  exact ⟨x,h3,hvr _ _ _ h4 h2⟩
 ·have hwb:=wkM_get hM hk
  cases B with
  | bx xo cs =>
   simp only [wkB] at hwb
   split at hwb
   ·rename_i x0 cs0 hk0
    obtain ⟨rfl,hwb⟩:=hwb
    obtain ⟨e1,us,e,e2,e3⟩:=hs.mm _ _ hk0
    exact ⟨e1,us,e,e2,All2.imp2 hcr e3 hwb⟩
   ·exact hwb.elim
  | row e t v o l =>
   simp only [wkB] at hwb
   split at hwb
   ·rename_i e0 t0 v0 o0 l0 hk0
    obtain ⟨rfl,hdd,ho⟩:=hwb
    injection hdd with d1 d2
    subst d1
    obtain rfl:=eq_of_heq d2
    obtain ⟨fps,e1,e2,e3,e4⟩:=hs.mm _ _ hk0
    exact ⟨fps,e1,e2,fun b hb=>wk_Gd hM (e3 b hb),fun h=>e4 (ho h)⟩
   ·exact hwb.elim
  | odat t l =>
   simp only [wkB] at hwb
   split at hwb
   ·rename_i t0 l0 hk0
    injection hwb with d1 d2
    subst d1
    obtain rfl:=eq_of_heq d2
    obtain ⟨e1,e2,e3⟩:=hs.mm _ _ hk0
    exact ⟨e1,fun b hb=>wk_Gd hM (e2 b hb),e3⟩
   ·exact hwb.elim
  | mine t l =>
   simp only [wkB] at hwb
   split at hwb
   ·rename_i t0 l0 hk0
    injection hwb with d1 d2
    subst d1
    obtain rfl:=eq_of_heq d2
    exact hs.mm _ _ hk0
   ·exact hwb.elim
  | ob x v d =>
   simp only [wkB] at hwb
   split at hwb
   ·rename_i x0 v0 d0 hk0
    obtain ⟨rfl,rfl⟩:=hwb
    exact hs.mm _ _ hk0
   ·rename_i e0 t0 v0 o0 l0 hk0
    obtain ⟨rfl,rfl,hfl,hne⟩:=hwb
    obtain ⟨fps,hg,_⟩:=hs.mm _ _ hk0
    exact que_of hg hfl hne
   ·exact hwb.elim
  | _=>exact hwb.elim
 ·obtain ⟨B0,h1,h2⟩:=wk_mut (wkM_get hM hk) hb
  obtain ⟨B1,h3,h4⟩:=wk_mut (wkM_get hM hk') hb'
  have:=hs.inj _ _ _ _ b h1 h3 h2 h4
  obtain ⟨q,hq,e⟩:=look_mem hk
  obtain ⟨q',hq',e'⟩:=look_mem hk'
  rw [<-hrng] at hnd
  have:=nodup_inj hnd hq hq' (by rw [e,e']; exact this)
  rw [<-e,<-e',this]
 ·obtain ⟨B0,h1,h2⟩:=wk_ofp (wkM_get hM hk) hb
  obtain ⟨B1,h3,h4⟩:=wk_ofp (wkM_get hM hk') hb'
  refine hs.disj _ _ _ _ b h1 h3 (fun he=>hne ?_) h2 h4
  obtain ⟨q,hq,e⟩:=look_mem hk
  obtain ⟨q',hq',e'⟩:=look_mem hk'
  rw [<-hrng] at hnd
  have:=nodup_inj hnd hq hq' (by rw [e,e']; exact he)
  rw [<-e,<-e',this]
theorem Sim.reBox (h:Sim c σ Γ a w) {k:Nat} {x:Option Nat} {cs cs2:List AV} (hk:look σ.mem k=some (.bx x cs)) (hc:∀ us,All2 (CRep c σ.mem Γ w) cs us->All2 (CRep c σ.mem Γ w) cs2 us):Sim c ⟨σ.tmps,(k,.bx x cs2) :: σ.mem⟩ Γ a w:=by
 obtain ⟨hb,us,e,hg,hcur⟩:=h.mm k _ hk
 refine h.chg (k:=k) (B':=.bx x cs2) (Γ':=Γ) (w':=w) ⟨fun j _=>⟨rfl,rfl,rfl⟩,rfl,rfl,rfl,Nat.le_refl _,fun _ _ _=>rfl,fun b hb=>.inr ⟨_,hk,hb⟩,fun b hb=>by simp [Blk.ofp] at hb⟩ ?_ ?_ ?_ ?_
 ·rintro ver u ⟨_,B,hB,hh⟩; rw [hk] at hB; injection hB with hB; subst hB; exact hh
 ·rintro ver i off u ⟨h1,B,hB,_⟩; exact ⟨h1,_,look_self ..,fun e t v o l hh=>by cases hh⟩
 ·intro x2 cs2 h2
  rw [hk] at h2
  injection h2 with h2
  injection h2 with h3 h4
  subst h3
  exact ⟨⟨_,rfl⟩,rfl⟩
 ·intro hcr
  exact ⟨hb,us,e,hg,(hc _ hcur).mono fun v u _=>hcr v u⟩
theorem Sim.nilRow (h:Sim c σ Γ a w) {n:Nat} (hn:look σ.mem n=none) (e:TypeId) (t:Ty):Sim c ⟨σ.tmps,(n,.row e t 0 true []) :: σ.mem⟩ (Γ.setR n (.slice none 0 0) []) a w :=
 h.newRow hn (Below.refl _ _) (v:=.slice none 0 0) (fps:=[]) ⟨[],World.ownsRow_nil w c.base e t.rp.size,rfl,fun i x hx=>by simp at hx⟩ (fun b hb=>by cases hb) (fun b hb=>by cases hb) (fun _=>⟨ownR_nil _ _,fun b hb=>by cases hb⟩)
theorem nilTo_sim {σ τ:St} (h:NilTo σ τ):∀ {Γ:Asg},Sim c σ Γ a w->∃ Γ',Sim c τ Γ' a w:=by
 induction h with
 | refl σ=>exact fun hs=>⟨_,hs⟩
 | conv h0 h ih =>
  intro Γ hs
  obtain ⟨Γ',hs'⟩:=h0 hs
  exact ih hs'
 | @box σ τ k j n e t x cs h1 h2 h3 h ih =>
  intro Γ hs
  have hs2:=hs.nilRow h3 e t
  have hkn:k ≠ n:=fun e=>by rw [e,h3] at h1; cases h1
  have hk2:look ((n,Blk.row e t 0 true []) :: σ.mem) k=some (.bx x cs):=by rw [look_ne _ _ hkn]; exact h1
  refine ih (hs2.reBox hk2 fun us hus=>?_)
  obtain ⟨u,hu,hr⟩:=hus.get h2
  obtain ⟨rfl,_⟩:=hr
  have hset:us.set j (.slice none 0 0)=us:=by
   obtain ⟨hj,hu⟩:=List.getElem?_eq_some_iff.1 hu
   rw [<-hu]; exact List.set_getElem_self hj
  rw [<-hset]
  exact hus.set j ⟨rfl,_,look_self ..,Nat.le_refl _,fun _=>by rw [Asg.setR_hd]⟩
 | @slot σ τ d n e t h1 h3 h ih =>
  intro Γ hs
  have hs2:=hs.nilRow h3 e t
  obtain ⟨u,hu,hv⟩:=hs2.tm d _ h1
  obtain ⟨rfl,_⟩:=hv
  refine ih (Γ:=Γ.setR n (.slice none 0 0) []) ?_
  refine { hs2 with tm:=fun d2 v2 hd2=>?_ }
  simp only [look] at hd2
  split at hd2
  ·rename_i e; injection hd2 with hd2; subst hd2 e
   exact ⟨_,hu,rfl,_,look_self ..,Nat.le_refl _,fun _=>by rw [Asg.setR_hd]⟩
  ·exact hs2.tm d2 v2 hd2
theorem wk_sim (hs:Sim c σ Γ a w) (h:Wk σ τ):∃ Γ',Sim c τ Γ' a w:=by
 obtain ⟨σ',h1,h2⟩:=h
 obtain ⟨Γ1,hs1⟩:=nilTo_sim h1 hs
 exact wk_sim0 hs1 h2
end
section
variable (P:Program) (T:TypeId->Option Ty) (n:Nat)
def thenA (next:St->Prop) (Q:Exit->St->Prop):Exit->St->Prop
 | .normal,σ=>next σ
 | e,σ=>Q e σ
def inBlk (id:Nat) (Q:Exit->St->Prop):Exit->St->Prop
 | .exit i,σ=>if i=id then Q .normal σ else Q (.exit i) σ
 | e,σ=>Q e σ
def AC:Code->(Exit->St->Prop)->St->Prop
 | .skip,Q,σ=>Q .normal σ
 | .region _ ops draw,Q,σ =>
  match draw with
  | true=>AO P T n ops.toList ops.toList σ [] (fun σ' tr=>okTr ops.toList tr=true/\Q .normal σ')
  | false=>AO P T n ops.toList ops.toList σ [] (fun σ' _=>Q .normal σ')
 | .seq x y,Q,σ=>AC x (thenA (fun σ'=>AC y Q σ') Q) σ
 | .cond c x y,Q,σ =>
  match ev (look σ.tmps) c with
  | some (.sc (.bool b))=>(b=true->AC x Q σ)/\(b=false->AC y Q σ)
  | some (.nb p q)=>(p->AC x Q σ)/\(q->AC y Q σ)
  | _=>False
 | .block id x,Q,σ=>AC x (inBlk id Q) σ
 | .loop x,Q,σ=>∃ (δ:Type) (S:δ->St) (ok:δ->Prop) (μ:δ->Nat) (x0:δ),Wk σ (S x0)/\ok x0/\∀ y,ok y->AC x (thenA (fun σ'=>∃ y',Wk σ' (S y')/\ok y'/\μ y' < μ y) Q) (S y)
 | .exit id,Q,σ=>Q (.exit id) σ
 | .ret,Q,σ=>Q .ret σ
 | _,_,_=>False
end
section
variable {P:Program} {T:TypeId->Option Ty} {c:Cx} [Nonempty (CG P c)]
theorem AC_wp (hT:TabOK P T) (hmix:P.follows .mixedOrders=true):∀ {x:Code} {Q:Exit->St->Prop} {Q':Exit->Act->World->Prop} {σ:St} {Γ:Asg} {a:Act} {w:World},AC P T c.n x Q σ->Sim c σ Γ a w →
  (∀ e σ' Γ' a' w',Q e σ'->Sim c σ' Γ' a' w'->Q' e a' w')->x.wp P Q' a w
 | .skip,Q,Q',σ,Γ,a,w,h,hs,hQ=>wp_skip (hQ _ _ _ _ _ h hs)
 | .region id ops draw,Q,Q',σ,Γ,a,w,h,hs,hQ=>by
  obtain ⟨l⟩:=ops
  cases draw with
  | true=>exact region_draw hT hmix hs h fun σ' Γ' a' w' hq hs'=>hQ _ _ _ _ _ hq hs'
  | false=>exact region_text hT hs h fun σ' Γ' a' w' hq hs'=>hQ _ _ _ _ _ hq hs'
 | .seq x y,Q,Q',σ,Γ,a,w,h,hs,hQ=>by
  refine wp_seq (AC_wp hT hmix (show AC P T c.n x _ σ from h) hs fun e σ' Γ' a' w' hq hs'=>?_)
  cases e with
  | normal=>exact AC_wp hT hmix (show AC P T c.n y Q σ' from hq) hs' hQ
  | _=>exact hQ _ _ _ _ _ hq hs'
 | .cond k x y,Q,Q',σ,Γ,a,w,h,hs,hQ=>by
  simp only [AC] at h
  split at h
  ·rename_i b hb
   have hv:a.eval k=.bool b:=(ev_rep hs (fun t _=>rfl) hb:VRep c σ.mem Γ w _ (a.eval k)).1
   cases b with
   | true=>exact wp_cond_true hv (AC_wp hT hmix (h.1 rfl) hs hQ)
   | false=>exact wp_cond_false hv (AC_wp hT hmix (h.2 rfl) hs hQ)
  ·rename_i p q hb
   obtain ⟨b,hv,hp,hq⟩:=(ev_rep hs (fun t _=>rfl) hb:VRep c σ.mem Γ w _ (a.eval k))
   cases b with
   | true=>exact wp_cond_true hv (AC_wp hT hmix (h.1 (hp rfl)) hs hQ)
   | false=>exact wp_cond_false hv (AC_wp hT hmix (h.2 (hq rfl)) hs hQ)
  ·exact h.elim
 | .block id x,Q,Q',σ,Γ,a,w,h,hs,hQ=>by
  refine wp_block (AC_wp hT hmix (show AC P T c.n x _ σ from h) hs fun e σ' Γ' a' w' hq hs'=>?_)
  cases e with
  | exit i =>
   simp only [inBlk,Exit.inBlock] at hq ⊢
   split
   ·rename_i e; rw [if_pos e] at hq; exact hQ _ _ _ _ _ hq hs'
   ·rename_i e; rw [if_neg e] at hq; exact hQ _ _ _ _ _ hq hs'
  | _=>exact hQ _ _ _ _ _ hq hs'
 | .loop x,Q,Q',σ,Γ,a,w,h,hs,hQ=>by
  obtain ⟨δ,S,ok,μ,x0,hw0,hk0,hround⟩:=h
  have hmin:∀ (a:Act) (w:World),(∃ m,∃ y Γ,ok y/\Sim c (S y) Γ a w/\μ y=m)->∃ m,(∃ y Γ,ok y/\Sim c (S y) Γ a w/\μ y=m)/\∀ y Γ,ok y->Sim c (S y) Γ a w->m<=μ y:=by
   rintro a w ⟨m,hm⟩
   induction m using Nat.strongRecOn with
   | _ m ih =>
    by_cases hlt:∃ y Γ,ok y/\Sim c (S y) Γ a w/\μ y < m
    ·obtain ⟨y,Γ,h1,h2,h3⟩:=hlt
     exact ih (μ y) h3 ⟨y,Γ,h1,h2,rfl⟩
    ·refine ⟨m,hm,fun y Γ h1 h2=>?_⟩
     rcases Nat.lt_or_ge (μ y) m with h3|h3
     ·exact absurd ⟨y,Γ,h1,h2,h3⟩ hlt
     ·exact h3
  have hfun:∃ ν:Act->World->Nat,∀ a w,(∃ m,∃ y Γ,ok y/\Sim c (S y) Γ a w/\μ y=m)->(∃ y Γ,ok y/\Sim c (S y) Γ a w/\μ y=ν a w)/\∀ y Γ,ok y->Sim c (S y) Γ a w->ν a w<=μ y:=by
   refine ⟨fun a w=>@dite _ (∃ m,∃ y Γ,ok y/\Sim c (S y) Γ a w/\μ y=m) (Classical.propDecidable _) (fun h=>Classical.choose (hmin a w h)) (fun _=>0),fun a w h=>?_⟩
   simp only [dif_pos h]
   exact Classical.choose_spec (hmin a w h)
  obtain ⟨ν,hν⟩:=hfun
  obtain ⟨Γ0,hs0⟩:=wk_sim hs hw0
  refine wp_loop (fun a w=>∃ y Γ,ok y/\Sim c (S y) Γ a w) ν ⟨x0,Γ0,hk0,hs0⟩ fun a1 w1 hI=>?_
  obtain ⟨y0,Γ1,h1,h2⟩:=hI
  obtain ⟨⟨y,Γ2,h3,h4,h5⟩,h6⟩:=hν a1 w1 ⟨_,y0,Γ1,h1,h2,rfl⟩
  refine AC_wp hT hmix (hround y h3) h4 fun e σ' Γ' a' w' hq hs'=>?_
  cases e with
  | normal =>
   obtain ⟨y',hwk,hk',hlt⟩:=hq
   obtain ⟨Γ3,hs3⟩:=wk_sim hs' hwk
   refine ⟨⟨y',Γ3,hk',hs3⟩,?_⟩
   have:=(hν a' w' ⟨_,y',Γ3,hk',hs3,rfl⟩).2 y' Γ3 hk' hs3
   omega
  | _=>exact hQ _ _ _ _ _ hq hs'
 | .exit id,Q,Q',σ,Γ,a,w,h,hs,hQ=>wp_exit (hQ _ _ _ _ _ h hs)
 | .ret,Q,Q',σ,Γ,a,w,h,hs,hQ=>wp_ret (hQ _ _ _ _ _ h hs)
 | .rangeFunc ..,_,_,_,_,_,_,h,_,_=>h.elim
 | .scope _,_,_,_,_,_,_,h,_,_=>h.elim
 | .label _,_,_,_,_,_,_,h,_,_=>h.elim
 | .goto _,_,_,_,_,_,_,h,_,_=>h.elim
 | .refuse _,_,_,_,_,_,_,h,_,_=>h.elim
end
def Wf:(t:Ty)->t.den->Prop
 | .int,n=>I64 n
 | .bool,_=>True
 | .str,s=>s.size<=maxLen
 | .u8,n=>0<=n/\n<=255
 | .cst _,_=>True
 | .prod a b,x=>Wf a x.1/\Wf b x.2
 | .slice a,l=>l.length<=maxLen/\∀ x ∈ l,Wf a x
 | .ext e a,x=>∀ y,x=some y->e=.ref->Wf a y
theorem rep_wf {w:World}:∀ {t:Ty} {x:t.den} {cs:List Value} {fp:List Nat},t.rp.rep w cs x fp->Wf t x
 | .int,_,_,_,h=>h.2.2
 | .bool,_,_,_,_=>trivial
 | .str,_,_,_,h=>h.2.2
 | .u8,_,_,_,h=>h.2.2
 | .cst _,_,_,_,_=>trivial
 | .prod a b,x,cs,fp,h=>by obtain ⟨c1,c2,f1,f2,_,_,h1,h2⟩:=h; exact ⟨rep_wf h1,rep_wf h2⟩
 | .ext e a,x,cs,fp,h=>by
  intro y hy he
  subst hy he
  obtain ⟨_,_,_,_,_,_,hr,_⟩:=h
  exact rep_wf hr
 | .slice a,l,cs,fp,h=>by
  obtain ⟨ad,cc,rfl,h2,h3,h4⟩:=h
  refine ⟨Nat.le_trans h2 h3,fun x hx=>?_⟩
  rcases h4 with ⟨rfl,_⟩|⟨b,off,fps,hl,_,_,_,he⟩
  ·cases hx
  ·obtain ⟨i,hi,rfl⟩:=List.getElem_of_mem hx
   obtain ⟨f,cs,_,hr,_⟩:=he i _ (List.getElem?_eq_getElem hi)
   exact rep_wf hr
section
variable (T:TypeId->Option Ty) (σ:St)
def aRes:ResultVar->Option AV
 | .tmp t=>look σ.tmps t
 | .cell t ty =>
  match T ty,look σ.tmps t with
  | some tt,some (.ptr k off) =>
   match look σ.mem k with
   | some (.bx _ cs)=>if off+tt.size<=cs.length then some (getC tt cs off) else none
   | _=>none
  | _,_=>none
def OwnA (v:AV):Prop:=(cellsOf v).all (OwnC σ)=true/\(cellRows (cellsOf v)).Nodup
def RetOK (own:Bool) (rs:List ResultVar) (res:List Dat):Prop :=
 match rs,res with
 | [r],[d] =>
  match aRes T σ r with
  | some v=>v.ok=true/\IsV (look σ.mem) d v/\(own=true->OwnA σ v)
  | none=>False
 | rs,ds=>rs.length ≠ 1/\All2 (fun r d=>match aRes T σ r with
  | some v=>v.ok=true/\IsV (look σ.mem) d v
  | none=>False) rs ds
end
def argTm (i:Nat):List Dat->Tm
 | []=>[]
 | d :: ds=>(i,av d.1 d.2) :: argTm (i+1) ds
section
variable {P:Program} {T:TypeId->Option Ty} {c:Cx} {σ:St} {Γ:Asg} {a:Act} {w:World}
def resM (tmps:Array Value):ResultVar->Sem Value
 | .tmp t=>pure (tmps.getD t undef)
 | .cell x t=>do loadVar t (<-asAddr (tmps.getD x undef))
theorem results_eq (fn:Func) (tmps:Array Value):results fn tmps=(do let vs <-fn.results.mapM (resM tmps); pure (if h:vs.size=1 then vs[0] else .tuple vs)):=by
 have:(resM tmps)=fun r=>(match r with|.tmp t=>pure (tmps.getD t undef)|.cell x t=>do loadVar t (<-asAddr (tmps.getD x undef)):Sem Value):=by funext r; cases r<;>rfl
 rw [this]; rfl
theorem aRes_run (hT:TabOK P T) (hs:Sim c σ Γ a w) {r:ResultVar} {v:AV} (h:aRes T σ r=some v) (hok:v.ok=true) :
  ∃ u,(resM a.tmps r).run P w=.ok u w/\ARep c σ.mem Γ w v u:=by
 cases r with
 | tmp t =>
  obtain ⟨u,h1,h2⟩:=hs.tm t v h
  refine ⟨u,?_,ok_arep h2 hok⟩
  simp only [resM,Sem.run_pure]
  rw [Array.getD_eq_getD_getElem?,h1]; rfl
 | cell t ty =>
  simp only [aRes] at h
  split at h
  ·rename_i tt k off ht hp
   split at h
   ·rename_i xo cs hk
    split at h
    ·rename_i hle
     injection h with h
     subst h
     obtain ⟨us,e,hg,hc⟩:=box_cell hs hk
     obtain ⟨u,h1,h2⟩:=hs.tm t _ hp
     have h2':u=.pointer (some ⟨Γ.loc k xo,off,none⟩):=by
      obtain ⟨xo',cs',hq,he⟩:=h2
      rw [hk] at hq; cases hq; exact he
     subst h2'
     have hlen:=hc.len
     have hrun:=run_loadVar (P:=P) (hT ty tt ht) (w:=w) (b:=Γ.loc k xo) (off:=off) (us:=(us.toList.drop off).take tt.size) (fun j v hv=>by
      rw [List.getElem?_take] at hv
      split at hv
      ·rw [List.getElem?_drop,Array.getElem?_toList] at hv
       rw [cell_of_row w _ _ us e (0,0) hg]; exact hv
      ·cases hv) (by rw [hlen] at hle; rw [List.length_take,List.length_drop]; omega)
     have hgc:=getC_rep hc hle
     refine ⟨_,?_,hgc⟩
     simp only [resM,Array.getD_eq_getD_getElem?,h1,Option.getD_some,asAddr,Sem.run_bind,Sem.run_pure,Result.andThen_ok,hrun]
     cases ha:tt.isAgg with
     | true=>rfl
     | false =>
      simp only [Bool.false_eq_true,if_false]
      have:=tt.pos; rw [tt.rp_size] at this
      rw [List.getD_eq_getElem?_getD,List.getElem?_take,if_pos this,List.getElem?_drop,Nat.add_zero,List.getD_eq_getElem?_getD]
    ·cases h
   ·cases h
  ·cases h
theorem argTm_ge:∀ {ds:List Dat} {i d:Nat} {v:AV},look (argTm i ds) d=some v->i<=d/\d < i+ds.length/\∃ e,ds[d - i]? = some e/\v=av e.1 e.2
 | [],_,_,_,h=>by cases h
 | e :: ds,i,d,v,h=>by
  simp only [argTm,look] at h
  split at h
  ·rename_i hd; injection h with h; subst hd h; exact ⟨Nat.le_refl _,by simp,e,by simp,rfl⟩
  ·obtain ⟨h1,h2,e',h3,h4⟩:=argTm_ge h
   refine ⟨by omega,by simp; omega,e',?_,h4⟩
   rw [show d - i=(d - (i+1))+1 by omega]; exact h3
theorem ret_ok (hT:TabOK P T) {fn:Func} {own:Bool} {res:List Dat} (hs:Sim c σ Γ a w) (hx:own=true->∀ b,c.X b->¬ c.S b) (h:RetOK T σ own fn.results.toList res):∃ v,(results fn a.tmps).run P w=.ok v w/\ResOK own c.base c.S w v res:=by
 unfold RetOK at h
 have hone:∀ {r:ResultVar} {d:Dat} {v:AV} {u:Value},ARep c σ.mem Γ w v u->IsV (look σ.mem) d v->DRes false c.base c.S w u d:=by
  intro r d v u hr hi
  obtain ⟨fp,h1,h2,_⟩:=hs.isVRep hr hi
  exact ⟨fp,h1,(fun h=>by cases h),h2⟩
 split at h
 ·rename_i r d hr
  split at h
  ·rename_i v hv
   obtain ⟨hok,hi,hown⟩:=h
   obtain ⟨u,h1,h2⟩:=aRes_run (P:=P) hT hs hv hok
   have hfr:fn.results=#[r]:=toList1 hr
   refine ⟨u,?_,?_⟩
   ·rw [results_eq,hfr,List.mapM_toArray,map_eq_pure_bind,Sem.run_bind,Sem.run_bind]
    simp only [List.mapM_cons,List.mapM_nil,Sem.run_bind,h1,Result.andThen_ok,Sem.run_pure]
    simp
   ·cases own with
    | false=>exact hone (r:=r) h2 hi
    | true =>
     obtain ⟨ho,hn⟩:=hown rfl
     cases v with
     | agg cs =>
      obtain ⟨us,rfl,hc⟩:=h2
      obtain ⟨fp,r1,o1,_⟩:=hs.ownRep hc hi.2 ho hn
      exact ⟨fp,⟨us,.inl ⟨hi.1,rfl⟩,r1⟩,fun _=>o1.up (hx rfl),fun b hb=>.inr ((o1.up (hx rfl)).2 b hb).1⟩
     | junk=>cases hok
     | tup _=>cases hok
     | _ =>
      have h2':=h2
      simp only [ARep] at h2'
      obtain ⟨fp,r1,o1,_⟩:=hs.ownRep (cs:=[_]) (us:=[u]) (And.intro h2' trivial) hi.2 ho hn
      exact ⟨fp,⟨[u],.inr ⟨hi.1,rfl⟩,r1⟩,fun _=>o1.up (hx rfl),fun b hb=>.inr ((o1.up (hx rfl)).2 b hb).1⟩
  ·exact h.elim
 ·rename_i ds _ _ hnot
  obtain ⟨hl1,h⟩:=h
  have key:∀ {rs:List ResultVar} {ds:List Dat},All2 (fun r d=>match aRes T σ r with
    | some v=>v.ok=true/\IsV (look σ.mem) d v
    | none=>False) rs ds->∃ us:List Value,(rs.mapM (resM a.tmps)).run P w=.ok us w/\us.length=rs.length/\All2 (DRes false c.base c.S w) us ds:=by
   intro rs
   induction rs with
   | nil=>intro ds h; cases ds with|nil=>exact ⟨[],rfl,rfl,trivial⟩|cons=>exact h.elim
   | cons r rs ih =>
    intro ds h
    cases ds with
    | nil=>exact h.elim
    | cons d ds =>
     obtain ⟨h1,h2⟩:=h
     split at h1
     ·rename_i v hv
      obtain ⟨u,g1,g2⟩:=aRes_run (P:=P) hT hs hv h1.1
      obtain ⟨us,g3,g4,g5⟩:=ih h2
      refine ⟨u :: us,?_,by simp [g4],hone (r:=r) g2 h1.2,g5⟩
      simp only [List.mapM_cons,Sem.run_bind,g1,g3,Result.andThen_ok,Sem.run_pure]
     ·exact h1.elim
  obtain ⟨us,h1,h2,h3⟩:=key h
  have hfr:fn.results=fn.results.toList.toArray:=by simp
  refine ⟨.tuple us.toArray,?_,?_⟩
  ·rw [results_eq,hfr,List.mapM_toArray,map_eq_pure_bind,Sem.run_bind,Sem.run_bind,h1]
   simp only [Result.andThen_ok,Sem.run_pure]
   rw [dif_neg (by simp only [List.size_toArray]; omega)]
  ·cases ds with
   | nil=>exact ⟨us,rfl,h3⟩
   | cons d ds =>
    cases ds with
    | nil =>
     have:=h3.len
     simp at this
     omega
    | cons d' ds=>exact ⟨us,rfl,h3⟩
theorem fn_gen (hT:TabOK P T) (hmix:P.follows .mixedOrders=true) {f:FuncId} {fn:Func} {code:Code} {args:List Dat} {RQ:St->Prop} {VQ:Nat->(Nat->Prop)->World->Value->Prop} (hf:P.funcs[f]? = some fn) (hname:(fn.name == "runtime.NumGoroutine")=false) (hb:fn.body=some code) (hn:args.length<=fn.ntmps)
  (hret:∀ (c:Cx) (σ:St) (Γ:Asg) (a:Act) (w:World),Sim c σ Γ a w->(∀ b,c.X b->¬ c.S b)->RQ σ->∃ v,(results fn a.tmps).run P w=.ok v w/\VQ c.base c.S w v)
  (h:(∀ d ∈ args,Wf d.1 d.2)->AC P T fn.ntmps code (fun e σ=>match e with
   | .normal|.ret=>RQ σ
   | _=>False) ⟨argTm 0 args,[]⟩):(∀ vs w,(callFunc f vs).run P w=.ok (.enter f vs) w) ∧
  ∀ (w:World) (vs:List Value) (S:Nat->Prop),Gw P w->All2 (fun v d=>∃ fp,DRep w v d fp/\∀ b ∈ fp,S b) vs args →
   Calls P f vs.toArray w fun e w'=>Below w.heap.size w w'/\∃ v,e=.returned v/\VQ w.heap.size S w' v:=by
 refine ⟨fun vs w=>?_,fun w vs S hgw hargs=>?_⟩
 ·have h1:fn.name ≠ "runtime.NumGoroutine":=by simpa using hname
  simp [callFunc,hf,h1,hb]
 ·refine calls_of_wp hf hb ?_
  have hwf:∀ d ∈ args,Wf d.1 d.2:=by
   clear h hn
   revert hargs
   generalize args=ds
   intro hargs
   induction ds generalizing vs with
   | nil=>intro d hd; cases hd
   | cons d ds ih =>
    cases vs with
    | nil=>exact hargs.elim
    | cons v vs =>
     obtain ⟨⟨fp,⟨cs,_,hr⟩,_⟩,h2⟩:=hargs
     intro d' hd'
     rcases List.mem_cons.1 hd' with rfl|hd'
     ·exact rep_wf hr
     ·exact ih vs h2 d' hd'
  have hlen:=hargs.len
  let c:Cx:=⟨w.heap.size,w,S,fn.ntmps,fun _=>False⟩
  have hlt:∀ {d:Dat} {v:Value} {fp:List Nat},DRep w v d fp->∀ b ∈ fp,b < w.heap.size:=fun ⟨cs,_,hr⟩=>(Ty.rp _).lt hr
  have hs:Sim c ⟨argTm 0 args,[]⟩ ⟨fun _=>0,fun _=>undef,fun _=>[]⟩ { tmps:=vs.toArray++Array.replicate (fn.ntmps - vs.toArray.size) undef,defers:=[] } w:=by
   refine ⟨fun d v hd=>?_,fun k B hk=>(by cases hk),fun k k' B B' b hk=>(by cases hk),fun k k' B B' b hk=>(by cases hk),.of (Below.refl _ _),Nat.le_refl _,rfl,by simp [c]; omega⟩
   obtain ⟨_,h2,e,h3,rfl⟩:=argTm_ge hd
   have hdl:d < vs.length:=by omega
   have hx:∃ u,vs[d]? = some u/\∃ fp,DRep w u e fp/\∀ b ∈ fp,S b:=by
    have hh:∀ {ds:List Dat} {vs:List Value} {d:Nat},All2 (fun v d=>∃ fp,DRep w v d fp/\∀ b ∈ fp,S b) vs ds->ds[d]? = some e->∃ u,vs[d]? = some u/\∃ fp,DRep w u e fp/\∀ b ∈ fp,S b:=by
     intro ds
     induction ds with
     | nil=>intro vs d _ h; simp at h
     | cons d0 ds ih =>
      intro vs d hA h
      cases vs with
      | nil=>exact hA.elim
      | cons v vs =>
       cases d with
       | zero=>simp at h; subst h; exact ⟨v,rfl,hA.1⟩
       | succ d=>simpa using ih hA.2 (by simpa using h)
    exact hh hargs (by simpa using h3)
   obtain ⟨u,hu,fp,hdr,hS⟩:=hx
   refine ⟨u,?_,arep_vrep (av_rep hdr fun b hb=>⟨.inl (hS b hb),fun ⟨k,B,hk,_⟩=>by cases hk⟩)⟩
   rw [Array.getElem?_append_left (by simpa using hdl)]
   simpa using hu
  have hcg:Nonempty (CG P c):=⟨CG.of hgw fun _ _ h=>h⟩
  refine AC_wp (c:=c) hT hmix (h hwf) hs fun e σ' Γ' a' w' hq hs'=>?_
  cases e with
  | normal =>
   obtain ⟨v,h1,h2⟩:=hret _ _ _ _ _ hs' (fun _ h=>h.elim) hq
   exact ⟨hs'.defs,v,h1,hs'.below.to,v,rfl,h2⟩
  | ret =>
   obtain ⟨v,h1,h2⟩:=hret _ _ _ _ _ hs' (fun _ h=>h.elim) hq
   exact ⟨hs'.defs,v,h1,hs'.below.to,v,rfl,h2⟩
  | _=>exact hq.elim
theorem fn_intro (hT:TabOK P T) (hmix:P.follows .mixedOrders=true) {f:FuncId} {fn:Func} {code:Code} {args:List Dat} {own:Bool} {res:List Dat} (hf:P.funcs[f]? = some fn) (hname:(fn.name == "runtime.NumGoroutine")=false) (hb:fn.body=some code) (hn:args.length<=fn.ntmps)
  (h:(∀ d ∈ args,Wf d.1 d.2)->AC P T fn.ntmps code (fun e σ=>match e with
   | .normal|.ret=>RetOK T σ own fn.results.toList res
   | _=>False) ⟨argTm 0 args,[]⟩):Fn P f args own res :=
 fn_gen (VQ:=fun b S w v=>ResOK own b S w v res) hT hmix hf hname hb hn (fun c σ Γ a w hs hx hq=>ret_ok (P:=P) hT hs (fun _=>hx) hq) h
def RetT (T:TypeId->Option Ty) (rs:List ResultVar) (res:List Dat) (σ:St):Prop :=
 rs.length ≠ 1/\All2 (fun r d=>match aRes T σ r with
  | some v=>v.ok=true/\IsV (look σ.mem) d v/\OwnA σ v
  | none=>False) rs res
end
section
variable (P:Program) (T:TypeId->Option Ty) (n:Nat)
def KAO (ops os:List Oper) (σ:St) (d:Option Nat) (tr:Tr) (Q:St->Tr->Prop) (e:Eff):Prop:=AO P T n ops os (σ.app d e) (tr++[e.te]) Q
def KAC (y:Code) (Q:Exit->St->Prop) (σ:St):Prop:=AC P T n y Q σ
def KN (Q:Exit->St->Prop) (σ:St) (_:Tr):Prop:=Q .normal σ
def KD (ops:List Oper) (Q:Exit->St->Prop) (σ:St) (tr:Tr):Prop:=okTr ops tr=true/\Q .normal σ
def KR (rs:List ResultVar) (own:Bool) (res:List Dat) (e:Exit) (σ:St):Prop :=
 match e with
 | .normal|.ret=>RetOK T σ own rs res
 | _=>False
def LoopG (x:Code) (Q:Exit->St->Prop) (σ:St):Prop:=∃ (δ:Type) (S:δ->St) (ok:δ->Prop) (μ:δ->Nat) (x0:δ),Wk σ (S x0)/\ok x0/\∀ y,ok y->AC P T n x (thenA (fun σ'=>∃ y',Wk σ' (S y')/\ok y'/\μ y' < μ y) Q) (S y)
def LoopK {δ:Type} (S:δ->St) (ok:δ->Prop) (μ:δ->Nat) (y:δ) (σ':St):Prop:=∃ y',Wk σ' (S y')/\ok y'/\μ y' < μ y
theorem LoopG.intro {x:Code} {Q:Exit->St->Prop} {σ:St} {δ:Type} (S:δ->St) (ok:δ->Prop) (μ:δ->Nat) (x0:δ) (h1:Wk σ (S x0)) (h2:ok x0) (h3:∀ y,ok y->AC P T n x (thenA (LoopK S ok μ y) Q) (S y)):LoopG P T n x Q σ:=⟨δ,S,ok,μ,x0,h1,h2,h3⟩
theorem LoopK.mk {δ:Type} {S:δ->St} {ok:δ->Prop} {μ:δ->Nat} {y:δ} {σ':St} (y':δ) (h1:Wk σ' (S y')) (h2:ok y') (h3:μ y' < μ y):LoopK S ok μ y σ':=⟨y',h1,h2,h3⟩
def WkL (L:List (Nat × Nat)) (σ τ:St):Prop:=((τ.mem.map fun p=>ren L p.1).Nodup)/\wkT (look σ.mem) (look τ.mem) (ren L) (τ.mem.map fun p=>ren L p.1) σ.tmps τ.tmps/\wkM (look σ.mem) (look τ.mem) (ren L) (τ.mem.map fun p=>ren L p.1) τ.mem
theorem Wk.mk {σ τ:St} (L:List (Nat × Nat)) (h:WkL L σ τ):Wk σ τ:=⟨σ,.refl σ,L,h⟩
theorem Wk.nilB {σ τ:St} (k j n:Nat) (e:TypeId) (t:Ty) {x:Option Nat} {cs:List AV} (h1:look σ.mem k=some (.bx x cs)) (h2:cs[j]? = some (.sc (.slice none 0 0))) (h3:look σ.mem n=none) (h:Wk ⟨σ.tmps,(k,.bx x (cs.set j (.row n 0))) :: (n,.row e t 0 true []) :: σ.mem⟩ τ):Wk σ τ:=⟨h.choose,.box k j n e t h1 h2 h3 h.choose_spec.1,h.choose_spec.2⟩
variable {P T n} {ops os:List Oper} {o:Oper} {σ:St} {tr:Tr} {Q:St->Tr->Prop} {QA:Exit->St->Prop} {x y:Code} {i j:Nat} {e:Eff}
@[go_sem] theorem KAO_app {d:Option Nat}:KAO P T n ops os σ d tr Q e=AO P T n ops os (σ.app d e) (tr++[e.te]) Q:=(rfl)
@[go_sem] theorem KAC_app:KAC P T n y QA σ=AC P T n y QA σ:=(rfl)
@[go_sem] theorem KN_app:KN QA σ tr=QA .normal σ:=(rfl)
@[go_sem] theorem KD_app:KD ops QA σ tr=(okTr ops tr=true/\QA .normal σ):=(rfl)
@[go_sem] theorem AO_nil:AO P T n ops [] σ tr Q=Q σ tr:=(rfl)
@[go_sem] theorem AO_cons {d:Option Nat} {op:Op} {t:TypeId} {ps:String} {af:Array Edge}:AO P T n ops (⟨d,op,t,ps,af,none⟩ :: os) σ tr Q =
  ((match d with|some d=>d < n|none=>True)/\aStep P T (look σ.tmps) (look σ.mem) (fresh σ.mem) (KAO P T n ops os σ d tr Q) ⟨d,op,t,ps,af,none⟩):=(rfl)
def Guarded (P:Program) (T:TypeId->Option Ty) (n:Nat) (ops os:List Oper) (o:Oper) (σ:St) (tr:Tr) (Q:St->Tr->Prop) (want:Bool) (g:Option Nat):Prop :=
 match g with
 | some g =>
  match look σ.tmps g with
  | some (.sc (.bool b)) =>
   (b=want->aStep P T (look ((g,.sc (.bool want)) :: σ.tmps)) (look σ.mem) (fresh σ.mem) (KAO P T n ops os ⟨(g,.sc (.bool want)) :: σ.tmps,σ.mem⟩ o.dst tr Q) o) ∧
   (b=!want->AO P T n ops os (St.app ⟨(g,.sc (.bool (!want))) :: σ.tmps,σ.mem⟩ o.dst .skip) (tr++[Eff.te .skip]) Q)
  | some (.tup _)=>AO P T n ops os (σ.app o.dst .skip) (tr++[Eff.te .skip]) Q
  | _=>False
 | none=>False
@[go_sem] theorem AO_guard {d:Option Nat} {op:Op} {t:TypeId} {ps:String} {af:Array Edge} {want:Bool}:AO P T n ops (⟨d,op,t,ps,af,some (j,want)⟩ :: os) σ tr Q =
  ((match d with|some d=>d < n|none=>True)/\Guarded P T n ops os ⟨d,op,t,ps,af,some (j,want)⟩ σ tr Q want (gslot ops j)):=(rfl)
def GuardW (P:Program) (T:TypeId->Option Ty) (n:Nat) (ops os:List Oper) (o:Oper) (σ:St) (tr:Tr) (Q:St->Tr->Prop) (want:Bool) (g:Nat) (v:Option AV):Prop :=
 match v with
 | some (.sc (.bool b)) =>
  (b=want->aStep P T (look ((g,.sc (.bool want)) :: σ.tmps)) (look σ.mem) (fresh σ.mem) (KAO P T n ops os ⟨(g,.sc (.bool want)) :: σ.tmps,σ.mem⟩ o.dst tr Q) o) ∧
  (b=!want->AO P T n ops os (St.app ⟨(g,.sc (.bool (!want))) :: σ.tmps,σ.mem⟩ o.dst .skip) (tr++[Eff.te .skip]) Q)
 | some (.tup _)=>AO P T n ops os (σ.app o.dst .skip) (tr++[Eff.te .skip]) Q
 | _=>False
@[go_sem] theorem Guarded_some {want:Bool} {g:Nat}:Guarded P T n ops os o σ tr Q want (some g)=GuardW P T n ops os o σ tr Q want g (look σ.tmps g):=(rfl)
@[go_sem] theorem GuardW_no {want:Bool} {g:Nat} {vs:List AV}:GuardW P T n ops os o σ tr Q want g (some (.tup vs))=AO P T n ops os (σ.app o.dst .skip) (tr++[Eff.te .skip]) Q:=(rfl)
@[go_sem] theorem GuardW_tt {g:Nat}:GuardW P T n ops os o σ tr Q true g (some (.sc (.bool true)))=aStep P T (look ((g,.sc (.bool true)) :: σ.tmps)) (look σ.mem) (fresh σ.mem) (KAO P T n ops os ⟨(g,.sc (.bool true)) :: σ.tmps,σ.mem⟩ o.dst tr Q) o:=by simp [GuardW]
@[go_sem] theorem GuardW_ff {g:Nat}:GuardW P T n ops os o σ tr Q false g (some (.sc (.bool false)))=aStep P T (look ((g,.sc (.bool false)) :: σ.tmps)) (look σ.mem) (fresh σ.mem) (KAO P T n ops os ⟨(g,.sc (.bool false)) :: σ.tmps,σ.mem⟩ o.dst tr Q) o:=by simp [GuardW]
@[go_sem] theorem GuardW_tf {g:Nat}:GuardW P T n ops os o σ tr Q true g (some (.sc (.bool false)))=AO P T n ops os (St.app ⟨(g,.sc (.bool false)) :: σ.tmps,σ.mem⟩ o.dst .skip) (tr++[Eff.te .skip]) Q:=by simp [GuardW]
@[go_sem] theorem GuardW_ft {g:Nat}:GuardW P T n ops os o σ tr Q false g (some (.sc (.bool true)))=AO P T n ops os (St.app ⟨(g,.sc (.bool true)) :: σ.tmps,σ.mem⟩ o.dst .skip) (tr++[Eff.te .skip]) Q:=by simp [GuardW]
@[go_sem] theorem AC_skip:AC P T n .skip QA σ=QA .normal σ:=(rfl)
@[go_sem] theorem AC_text {id:Nat} {l:List Oper}:AC P T n (.region id l.toArray false) QA σ=AO P T n l l σ [] (KN QA):=(rfl)
@[go_sem] theorem AC_draw {id:Nat} {l:List Oper}:AC P T n (.region id l.toArray true) QA σ=AO P T n l l σ [] (KD l QA):=(rfl)
@[go_sem] theorem AC_seq:AC P T n (.seq x y) QA σ=AC P T n x (thenA (KAC P T n y QA) QA) σ:=(rfl)
def CondW (P:Program) (T:TypeId->Option Ty) (n:Nat) (x y:Code) (Q:Exit->St->Prop) (σ:St) (v:Option AV):Prop :=
 match v with
 | some (.sc (.bool b))=>(b=true->AC P T n x Q σ)/\(b=false->AC P T n y Q σ)
 | some (.nb p q)=>(p->AC P T n x Q σ)/\(q->AC P T n y Q σ)
 | _=>False
@[go_sem] theorem AC_cond {k:Operand}:AC P T n (.cond k x y) QA σ=CondW P T n x y QA σ (ev (look σ.tmps) k):=(rfl)
@[go_sem] theorem CondW_t:CondW P T n x y QA σ (some (.sc (.bool true)))=AC P T n x QA σ:=by simp [CondW]
@[go_sem] theorem CondW_f:CondW P T n x y QA σ (some (.sc (.bool false)))=AC P T n y QA σ:=by simp [CondW]
theorem CondW_dec {p:Prop} {dp:Decidable p} (h1:p->AC P T n x QA σ) (h2:¬ p->AC P T n y QA σ):CondW P T n x y QA σ (some (.sc (.bool (@decide p dp)))) :=
 ⟨fun h=>h1 (of_decide_eq_true h),fun h=>h2 (of_decide_eq_false h)⟩
theorem CondW_not {p:Prop} {dp:Decidable p} (h1:¬ p->AC P T n x QA σ) (h2:p->AC P T n y QA σ):CondW P T n x y QA σ (some (.sc (.bool (!@decide p dp)))):=by
 refine ⟨fun h=>h1 (of_decide_eq_false (by simpa using h)),fun h=>h2 (of_decide_eq_true (by simpa using h))⟩
theorem CondW_nb {p q:Prop} (h1:p->AC P T n x QA σ) (h2:q->AC P T n y QA σ):CondW P T n x y QA σ (some (.nb p q)):=⟨h1,h2⟩
theorem CondW_b {b:Bool} (h1:b=true->AC P T n x QA σ) (h2:b=false->AC P T n y QA σ):CondW P T n x y QA σ (some (.sc (.bool b))):=⟨h1,h2⟩
theorem GuardW_dec {p:Prop} {dp:Decidable p} {g:Nat} (h1:p->aStep P T (look ((g,.sc (.bool true)) :: σ.tmps)) (look σ.mem) (fresh σ.mem) (KAO P T n ops os ⟨(g,.sc (.bool true)) :: σ.tmps,σ.mem⟩ o.dst tr Q) o)
  (h2:¬ p->AO P T n ops os (St.app ⟨(g,.sc (.bool false)) :: σ.tmps,σ.mem⟩ o.dst .skip) (tr++[Eff.te .skip]) Q):GuardW P T n ops os o σ tr Q true g (some (.sc (.bool (@decide p dp)))) :=
 ⟨fun h=>h1 (of_decide_eq_true h),fun h=>h2 (of_decide_eq_false h)⟩
theorem GuardW_decf {p:Prop} {dp:Decidable p} {g:Nat} (h1:¬ p->aStep P T (look ((g,.sc (.bool false)) :: σ.tmps)) (look σ.mem) (fresh σ.mem) (KAO P T n ops os ⟨(g,.sc (.bool false)) :: σ.tmps,σ.mem⟩ o.dst tr Q) o)
  (h2:p->AO P T n ops os (St.app ⟨(g,.sc (.bool true)) :: σ.tmps,σ.mem⟩ o.dst .skip) (tr++[Eff.te .skip]) Q):GuardW P T n ops os o σ tr Q false g (some (.sc (.bool (@decide p dp)))) :=
 ⟨fun h=>h1 (of_decide_eq_false h),fun h=>h2 (of_decide_eq_true h)⟩
@[go_sem] theorem AC_block {id:Nat}:AC P T n (.block id x) QA σ=AC P T n x (inBlk id QA) σ:=(rfl)
@[go_sem] theorem AC_loop:AC P T n (.loop x) QA σ=LoopG P T n x QA σ:=(rfl)
@[go_sem] theorem AC_exit {id:Nat}:AC P T n (.exit id) QA σ=QA (.exit id) σ:=(rfl)
@[go_sem] theorem AC_ret:AC P T n .ret QA σ=QA .ret σ:=(rfl)
variable {nt:St->Prop}
@[go_sem] theorem thenA_n:thenA nt QA .normal σ=nt σ:=(rfl)
@[go_sem] theorem thenA_e:thenA nt QA (.exit i) σ=QA (.exit i) σ:=(rfl)
@[go_sem] theorem thenA_r:thenA nt QA .ret σ=QA .ret σ:=(rfl)
@[go_sem] theorem inBlk_n:inBlk i QA .normal σ=QA .normal σ:=(rfl)
@[go_sem] theorem inBlk_e:inBlk i QA (.exit j) σ=if j=i then QA .normal σ else QA (.exit j) σ:=(rfl)
@[go_sem] theorem inBlk_r:inBlk i QA .ret σ=QA .ret σ:=(rfl)
@[go_sem] theorem KR_r {rs:List ResultVar} {own:Bool} {res:List Dat}:KR T rs own res .ret σ=RetOK T σ own rs res:=(rfl)
@[go_sem] theorem fresh_nil:fresh []=0:=(rfl)
@[go_sem] theorem fresh_cons {k:Nat} {B:Blk} {M:Mm}:fresh ((k,B) :: M)=if k+1<=fresh M then fresh M else k+1:=by
 have e:fresh ((k,B) :: M)=max (k+1) (fresh M):=(rfl)
 rw [e]
 by_cases h:k+1<=fresh M
 ·rw [if_pos h,Nat.max_eq_right h]
 ·rw [if_neg h,Nat.max_eq_left (by omega)]
theorem NilW.non {K:Eff->Prop} {p:Prop} {rd:List Nat} {neg:Bool} (h:¬ p) (hk:K ⟨.sc (.bool neg),[],rd⟩):NilW K p rd neg:=.inl ⟨h,hk⟩
theorem NilW.eq {K:Eff->Prop} {p:Prop} {rd:List Nat} (hk:K ⟨.nb p True,[],rd⟩):NilW K p rd false:=.inr hk
theorem CallW.mk {P:Program} {lm:Nat->Option Blk} {nx:Nat} {K:Eff->Prop} {f:FuncId} {vs:List AV} {args:List Dat} {own:Bool} {res:List Dat} (h:Fn P f args own res) (hk:All2 (fun v d=>IsV (lmF lm (vs.flatMap AV.rows) (apartR own res)) d v) vs args/\K (callEff lm nx (vs.flatMap AV.rows) own res)):CallW P lm nx K f vs:=.inl ⟨args,own,res,h,hk.1,hk.2⟩
theorem CallW.g {P:Program} {lm:Nat->Option Blk} {nx:Nat} {K:Eff->Prop} {f:FuncId} {vs:List AV} {args:List Dat} {e:TypeId} {t:Ty} {l:List t.den} (h:FnG P f args e t l) (hk:All2 (fun v d=>IsV (lmX lm) d v) vs args/\K ⟨.row nx 0,[(nx,.row e t 0 true l)],vs.flatMap AV.rows⟩):CallW P lm nx K f vs:=.inr (.inr (.inr (.inr (.inr (.inl ⟨args,e,t,l,h,hk.1,hk.2⟩)))))
theorem CallW.r {P:Program} {lm:Nat->Option Blk} {nx:Nat} {K:Eff->Prop} {f:FuncId} {vs:List AV} {xs:List Cst} {e:TypeId} {t:Ty} {l l':List t.den} {ret:Bool} {k ver:Nat} {o:Bool} (h:FnR P f xs e t l l' ret) (hk:vs=.row k ver :: xs.map (fun c=>.sc c.val)/\lm k=some (.row e t ver o l)/\K ⟨if ret then .row k (ver+1) else .tup [],[(k,.row e t (if ret then ver+1 else ver) t.flat l')],[k]⟩):CallW P lm nx K f vs:=.inr (.inr (.inr (.inr (.inr (.inr (.inl ⟨xs,e,t,l,l',ret,k,ver,o,h,hk.1,hk.2.1,hk.2.2⟩))))))
theorem CallW.c {P:Program} {lm:Nat->Option Blk} {nx:Nat} {K:Eff->Prop} {f:FuncId} {vs:List AV} {t:Ty} {l:List t.den} {zs zs':List Value} {args:List Dat} {own:Bool} {d:Dat} {k:Nat} (mn:Bool) (h:FnC P f t l zs zs' args own d) (hk:CallCW lm nx K t l zs zs' args own d mn k vs):CallW P lm nx K f (.ptr k 0 :: vs):=.inr (.inr (.inr (.inr (.inr (.inr (.inr (.inl ⟨t,l,zs,zs',args,own,d,mn,k,vs,h,rfl,hk⟩)))))))
theorem CallW.nb {P:Program} {lm:Nat->Option Blk} {nx:Nat} {K:Eff->Prop} {f:FuncId} {v:AV} {vs:List AV} {t:Ty} {l:List t.den} {zs:List Value} {args:List Dat} (h:FnN P f t l zs args) (hk:fxd v=some ⟨t,l⟩/\All2 (fun v d=>IsV (lmF lm (vs.flatMap AV.rows) false) d v) vs args/\K ⟨.ptr nx 0,(nx,.box (v :: zs.map fun z=>.sc z)) :: frzU lm (vs.flatMap AV.rows),vs.flatMap AV.rows⟩):CallW P lm nx K f (v :: vs):=.inr (.inr (.inr (.inr (.inr (.inr (.inr (.inr (.inl ⟨t,l,zs,args,v,vs,h,rfl,hk.1,hk.2.1,hk.2.2⟩))))))))
theorem CallW.h {P:Program} {lm:Nat->Option Blk} {nx:Nat} {K:Eff->Prop} {f:FuncId} {vs:List AV} {args:Nat->List Dat} {res:List Dat} (kc:Nat) (h:∀ b,Fn P f (args b) false res) (hk:(res.all fun d=>d.1.flat)=true/\(∀ b,AddrOf lm kc b->All2 (fun v d=>IsH lm kc b d v) vs (args b))/\K ⟨resAV res,[],kc :: vs.flatMap (rdH lm)⟩):CallW P lm nx K f vs:=.inr (.inr (.inr (.inr (.inr (.inr (.inr (.inr (.inr (.inr (.inl ⟨args,res,kc,h,hk⟩))))))))))
def AskA (lm:Nat->Option Blk) (K:Eff->Prop) (vs vs0:List AV) (M:Mm) (v:AV) (M':Mm):Prop :=
 okM M M'/\All2 (IsPA (lmF lm (rowsA (M.map (·.1)) (vs.flatMap AV.rows)) false) (M.map (·.1))) vs vs0/\IsEs lm (M.map (·.1)) M/\K ⟨v,M'++frzU lm (rowsA (M.map (·.1)) (vs.flatMap AV.rows)),M.map (·.1)++rowsA (M.map (·.1)) (vs.flatMap AV.rows)⟩
theorem CallA.mk {P:Program} {lm:Nat->Option Blk} {K:Eff->Prop} {f:FuncId} {vs vs0:List AV} {M M':Mm} {v:AV} (h:FnA P f vs0 M v M') (hk:AskA lm K vs vs0 M v M'):CallA P lm K f vs:=⟨vs0,M,M',v,h,hk⟩
theorem CallW.ma {P:Program} {lm:Nat->Option Blk} {nx:Nat} {K:Eff->Prop} {f:FuncId} {vs vs0:List AV} {M M':Mm} {v:AV} (h:FnA P f vs0 M v M') (hk:AskA lm K vs vs0 M v M'):CallW P lm nx K f vs:=.inr (.inr (.inr (.inr (.inr (.inr (.inr (.inr (.inr (.inr (.inr (.inr (.inr (.inr (.inr (.inl (CallA.mk h hk))))))))))))))))
theorem CallW.l {P:Program} {lm:Nat->Option Blk} {nx:Nat} {K:Eff->Prop} {f:FuncId} {vs:List AV} {args:List Dat} {e:TypeId} {t:Ty} {l:List t.den} (h:FnL P f args e t l) (hk:All2 (fun v d=>IsV (lmF lm (vs.flatMap AV.rows) false) d v) vs args/\K ⟨.row nx 0,(nx,.row e t 0 false l) :: frzU lm (vs.flatMap AV.rows),vs.flatMap AV.rows⟩):CallW P lm nx K f vs:=.inr (.inr (.inr (.inr (.inr (.inr (.inr (.inr (.inr (.inr (.inr (.inr (.inr (.inr (.inr (.inr ⟨args,e,t,l,h,hk⟩)))))))))))))))
attribute [go_sem] AskA rowsA okM okE IsEs IsE IsPA IsP IsPB
section
variable {lm:Nat->Option Blk} {kc b:Nat} {d:Dat}
@[go_sem] theorem IsH_agg {cs:List AV}:IsH lm kc b d (.agg cs)=(d.1.isAgg=true/\IsH0 lm kc b d.1 d.2 cs):=(rfl)
@[go_sem] theorem rdH_agg {cs:List AV}:rdH lm (.agg cs)=(AV.agg cs).rows:=(rfl)
@[go_sem] theorem IsH0_int {x:Int} {cs:List AV}:IsH0 lm kc b .int x cs=Is (lmQ lm) .int x cs:=(rfl)
@[go_sem] theorem IsH0_bool {x:Bool} {cs:List AV}:IsH0 lm kc b .bool x cs=Is (lmQ lm) .bool x cs:=(rfl)
@[go_sem] theorem IsH0_slice {t:Ty} {x:List t.den} {cs:List AV}:IsH0 lm kc b (.slice t) x cs=Is (lmQ lm) (.slice t) x cs:=(rfl)
@[go_sem] theorem IsH0_prod {A B:Ty} {x:A.den × B.den} {cs:List AV}:IsH0 lm kc b (.prod A B) x cs=(IsH0 lm kc b A x.1 (cs.take A.size)/\IsH0 lm kc b B x.2 (cs.drop A.size)):=(rfl)
end
theorem CallK.mk {P:Program} {lm:Nat->Option Blk} {K:Eff->Prop} {f:FuncId} {vs:List AV} {args:List Dat} {d:Dat} (h:Fn P f args false [d]) (hk:d.1.flat=true/\All2 (fun v d=>IsC lm d v) vs args/\K ⟨av d.1 d.2,[],vs.flatMap (rdK lm)⟩):CallKE P lm K f vs:=.inl ⟨args,d,h,hk⟩
theorem CallD.mk {P:Program} {lm:Nat->Option Blk} {K:Eff->Prop} {f:FuncId} {A:Ty} {x:A.den} {vs:List AV} {d0:Dat} {d:Dat} (h:Fn P f (d0 :: capD A x) false [d]) (hk:d.1.flat=true/\All2 (fun v d=>IsV lm d v) vs [d0]/\K ⟨av d.1 d.2,[],vs.flatMap AV.rows⟩):CallDD P lm K f A x vs:=.inl ⟨[d0],d,h,hk⟩
@[go_sem] theorem IsC_clb {lm:Nat->Option Blk} {d:Dat} {f:FuncId} {ks:List Nat}:IsC lm d (.clb f ks)=IsClo lm d.1 d.2 f ks:=(rfl)
@[go_sem] theorem IsC_sl {lm:Nat->Option Blk} {d:Dat} {t:Ty} {l:List t.den}:IsC lm d (.sl t l)=IsV lm d (.sl t l):=(rfl)
@[go_sem] theorem SlcW_sl {lm:Nat->Option Blk} {K:Eff->Prop} {s t:Ty} {l:List s.den} {m:List t.den} {a b:Int}:SlcW lm K s l a b (.sl t m)=K ⟨.sl s ((l.take b.toNat).drop a.toNat),frzU lm (AV.sl t m).rows,(AV.sl t m).rows⟩:=(rfl)
theorem SlcW.keep {lm:Nat->Option Blk} {K:Eff->Prop} {s:Ty} {l:List s.den} {a b:Int} {k ver:Nat} (h:K ⟨.sl s ((l.take b.toNat).drop a.toNat),frzU lm [k],[k]⟩):SlcW lm K s l a b (.row k ver):=.inl h
theorem SlcW.cut {lm:Nat->Option Blk} {K:Eff->Prop} {s:Ty} {l:List s.den} {a b:Int} {k ver:Nat} {e:TypeId} {o:Bool} (h:a=0/\lm k=some (.row e s ver o l)/\K ⟨.row k (ver+1),[(k,.row e s (ver+1) s.flat (l.take b.toNat))],[k]⟩):SlcW lm K s l a b (.row k ver):=.inr ⟨h.1,e,o,h.2.1,h.2.2⟩
theorem QuoW.pos {K:Eff->Prop} {a b:Int} (h0:0<=a) (h1:0 < b) (h:K (.val (.sc (.int .i64 (a / b))))):QuoW K a b:=⟨_,.inl ⟨h0,h1,rfl⟩,h⟩
theorem RemW.pos {K:Eff->Prop} {a b:Int} (h0:0<=a) (h1:0 < b) (h:K (.val (.sc (.int .i64 (a % b))))):RemW K a b:=⟨_,.inl ⟨h0,h1,rfl⟩,h⟩
theorem FloW.mk {K:Eff->Prop} {op:BinOp} {x y:Nat} (r:Nat) (h:floatBits op .f64 x y=some r) (hk:K (.val (.sc (.float .f64 r)))):FloW K op x y:=⟨r,h,hk⟩
theorem FtiW.mk {K:Eff->Prop} {x:Nat} (n:Int) (h:floatToIntVal .f64 x .i64=some n) (hI:I64 n) (hk:K (.val (.sc (.int .i64 n)))):FtiW K x:=⟨n,h,hI,hk⟩
theorem fn_enter {P:Program} {T:TypeId->Option Ty} (hT:TabOK P T) (hmix:P.follows .mixedOrders=true) {f:FuncId} {fn:Func} {code:Code} {args:List Dat} {own:Bool} {res:List Dat} (hf:P.funcs[f]? = some fn) (hname:(fn.name == "runtime.NumGoroutine")=false) (hb:fn.body=some code) (n:Nat) (hn:fn.ntmps=n) (rs:List ResultVar) (hr:fn.results=rs.toArray) (hna:args.length<=n)
  (h:(∀ d ∈ args,Wf d.1 d.2)->AC P T n code (KR T rs own res) ⟨argTm 0 args,[]⟩):Fn P f args own res:=by
 subst hn
 refine fn_intro hT hmix hf hname hb hna fun hwf=>?_
 have:=h hwf
 have e:(KR T rs own res)=fun e σ=>match e with
   | .normal|.ret=>RetOK T σ own fn.results.toList res
   | _=>False:=by
  have hrl:fn.results.toList=rs:=by rw [hr]
  rw [hrl]; funext e σ; cases e<;>rfl
 rw [e] at this
 exact this
end
theorem look_hit {α:Type} (k:Nat) (v:α) (l:List (Nat × α)):look ((k,v) :: l) k=some v:=look_self k v l
theorem look_miss {α:Type} {k d:Nat} (v:α) (l:List (Nat × α)) (h:(d == k)=false):look ((k,v) :: l) d=look l d:=look_ne v l (by simpa using h)
attribute [go_sem] reduceIte reduceCtorEq Nat.reduceEqDiff Nat.reduceLT Nat.reduceLeDiff Nat.reduceAdd Nat.reduceBEq Nat.reduceMul Int.reduceToNat Int.reduceLE Int.reduceLT Int.reduceEq Int.reduceNeg
attribute [go_sem] mk_bs emp_bs ofI_bs List.map_cons List.map_nil aIdxS aSlcS aConvS aConvB isU8 byt_bs bs_size bs_app bs_ext bs_beq queE aLenQ aIdxQ aLoadQ aSlcQ aAppQ Nat.zero_add List.drop_zero IsMp IsPt IsRf IsCk AddrOf resAV oblk Blk.ob.injEq ObD.map.injEq true_implies forall_eq' mapE aLook aUpd aNewMap IsClo exV aNilChk evPtrs aMakeClo aIndexArr aBuildArr aMakeMap aCall2 hasClb CapOK capD rdK boxRows boxRows1 ptrRows Ty.plain Ex.zv
attribute [go_sem] nrow lmQ aStoreMine fxd cEff CallCW AV.fx.injEq RetT lmX Blk.toOd Blk.toMine mineM xEff IsM mcel mrow MkV Option.map_some Option.map_none aStep aMove aPick aBox aAlloc aLoad aStoreBox aStoreRow aFieldAddr aField aBin0 aBinW aBinX isAM aNil Cst.val aUn aConv aExtract aBuild fillA aLen elemPtr aIndexAddr Blk.fz frzU ocel oav apartR callEff evs lmF aCall aBuildSlice aAppend aMakeSlice evo aSlice aMin aMax
 ev kst look_hit look_miss look_nil getC cel av cellsOf AV.ok AV.rows AV.data Blk.data gslot St.app Eff.val Eff.te Eff.skip Ty.isAgg Ty.size Ty.flat Ty.zero Ty.zc zcl argTm RetOK aRes IsV Is IsS OwnA OwnC OwnL ownV cellRows All2 LeC LeA LeV wkT wkB wkM ren isSl idx WkL rdC rdI rdB rdT rdU rdX rdV rdL rdS lget_same decide_true decide_false Int.toNat_natCast
def ni (l:List Int) (i:Nat):Int:=nth (t:=.int) l i
@[go_sem] theorem nth_int (l:List Int) (i:Nat):@nth .int l i=ni l i:=(rfl)
theorem ni_lt {l:List Int} {i:Nat} (h:i < l.length):ni l i=l[i]:=nth_lt (t:=.int) h
theorem ni_ge {l:List Int} {i:Nat} (h:l.length<=i):ni l i=0:=by rw [ni,nth,List.getD_eq_getElem?_getD,List.getElem?_eq_none h]; rfl
@[go_sem] theorem ex_bx {α β:Type} (a:α) (b:β):(∃ x cs,a=x/\b=cs)=True:=by simp
attribute [go_sem] exists_eq_left exists_eq_left' exists_eq' exists_eq and_imp beq_self_eq_true Int.toNat_zero List.length_append List.nodup_nil List.nodup_cons List.not_mem_nil not_false_eq_true List.mem_cons Option.getD_none Option.getD_some implies_true false_implies or_false or_true false_or true_or forall_eq List.cons.injEq AV.sc.injEq AV.sl.injEq Blk.bx.injEq Value.int.injEq Value.bool.injEq Sigma.mk.injEq heq_eq_eq true_and and_true and_self false_and and_false if_true if_false List.length_cons List.length_nil List.take_succ_cons List.take_zero List.drop_succ_cons List.drop_zero List.cons_append List.nil_append List.getD_cons_zero List.getD_cons_succ List.map_cons List.map_nil List.all_cons List.all_nil List.flatMap_cons List.flatMap_nil List.toList_toArray forall_const Bool.not_true Bool.not_false Bool.false_eq_true Bool.and_true Bool.true_and Bool.or_false Bool.false_or Bool.or_true Bool.true_or Bool.and_false Bool.false_and List.length_replicate List.length_set ne_eq List.headD_cons Option.bind_some Option.some.injEq Option.isSome_some List.getElem?_cons_zero List.getElem?_cons_succ List.getElem?_toArray Nat.zero_add Option.none_or Option.some_or
theorem AI {p q:Prop} (g:q) (h:p:=by first|omega|(constructor<;>omega)|kernel_rfl):p/\q:=⟨h,g⟩
theorem WK {σ τ:St} (h:WkL [] σ τ:=by (try simp (maxSteps:=9^9) only [go_sem]); try (and_intros<;>first|rfl|omega|exact ⟨_,rfl⟩)):Wk σ τ:=Wk.mk [] h
theorem cw {P:Program} {lm:Nat -> Option Blk} {nx:Nat} {K:Eff -> Prop} {f:FuncId} {vs:List AV} {args:List Dat} {own:Bool} {res:List Dat} (h:Fn P f args own res) (hk:All2 (fun v d=>IsV (lmF lm (vs.flatMap AV.rows) (apartR own res)) d v) vs args /\ K (callEff lm nx (vs.flatMap AV.rows) own res)):CallW P lm nx K f vs:=CallW.mk h hk
end Go.Proofs.YtcbionahcldlnaaGreat.DW

namespace Go.Proofs.YtcbionahcldlnaaGreat
open Go.RowKit
abbrev DIntS:=List Int
abbrev RIntS:Rp DIntS:=Rp.slice Rp.int (by decide)
abbrev DBigInt:=Bool × DIntS
abbrev RBigInt:Rp DBigInt:=Rp.prod Rp.bool RIntS
abbrev DRat:=DBigInt × DIntS
abbrev RRat:Rp DRat:=Rp.prod RBigInt RIntS
abbrev DPoint:=DRat × DRat
abbrev RPoint:Rp DPoint:=Rp.prod RRat RRat
theorem list1 {α:Type} {l:List α} (h:l.length=1):∃ c0,l=[c0]:=by
 match l,h with
 | [c0],_=>exact ⟨c0,rfl⟩
theorem list6 {α:Type} {l:List α} (h:l.length=6):∃ c0 c1 c2 c3 c4 c5,l=[c0,c1,c2,c3,c4,c5]:=by
 match l,h with
 | [c0,c1,c2,c3,c4,c5],_=>exact ⟨c0,c1,c2,c3,c4,c5,rfl⟩
end Go.Proofs.YtcbionahcldlnaaGreat

namespace Go.Proofs.YtcbionahcldlnaaGreat.DW
open Go.RowKit
abbrev tInts:Ty:=.slice .int
abbrev tBig:Ty:=.prod .bool tInts
abbrev tRat:Ty:=.prod tBig tInts
abbrev tPoint:Ty:=.prod tRat tRat
abbrev tStep:Ty:=.prod .int tPoint
abbrev tVec:Ty:=.prod .int .int
abbrev tVecSS:Ty:=.slice (.slice tVec)
abbrev tScene:Ty:=.prod tVec (.prod tVec (.prod (.slice tVec) (.prod tVecSS (.slice tVec))))
abbrev tBox:Ty:=.prod tVec tVec
abbrev tCell:Ty:=.prod tRat (.prod tRat (.prod tRat (.prod tRat (.prod tRat tRat))))
abbrev tWall:Ty:=.prod tRat (.prod tRat tRat)
abbrev tEdge:Ty:=.prod tVec (.prod tVec (.prod .int .bool))
abbrev tBlck:Ty:=.prod tPoint tPoint
abbrev tSlice:Ty:=.prod .int (.prod .bool (.prod tBox (.prod tVecSS (.prod (.slice tCell) (.prod (.slice tWall) (.prod (.slice tVec) tInts))))))
abbrev tRoad:Ty:=.prod tScene (.prod (.slice tSlice) (.prod tInts (.slice tInts)))
abbrev tCur:Ty:=.prod (.slice .u8) (.prod .int .int)
def tyOf:TypeId->Option Ty
 | 3=>some .int
 | 4=>some .bool
 | 9=>some .str
 | 31=>some tInts
 | 5=>some .u8
 | 22=>some (.slice .u8)
 | 76=>some tCur
 | 88=>some tBig
 | 90=>some tRat
 | 84=>some (.slice tRat)
 | 103=>some tPoint
 | 208=>some (.slice tPoint)
 | 108=>some tStep
 | 24=>some tVec
 | 25=>some (.slice tVec)
 | 32=>some (.slice tInts)
 | 26=>some tVecSS
 | 28=>some tScene
 | 52=>some tBox
 | 93=>some tCell
 | 95=>some tWall
 | 98=>some tVec
 | 57=>some tSlice
 | 34=>some tRoad
 | 53=>some (.slice tCell)
 | 54=>some (.slice tWall)
 | 55=>some (.slice tVec)
 | 30=>some (.slice tSlice)
 | 139=>some tEdge
 | 136=>some (.slice tEdge)
 | 145=>some tPoint
 | 153=>some (.slice tPoint)
 | 152=>some tBlck
 | 149=>some (.slice tBlck)
 | _=>none
theorem mixes:Tryz.prog.follows .mixedOrders=true:=by kernel_rfl
theorem tabOK:TabOK Tryz.prog tyOf:=by
 intro ty t h
 unfold tyOf at h
 split at h
 all_goals first|cases h; done|(injection h with h; subst h; exact tyOK (by kernel_rfl) (by kernel_rfl))
attribute [go_sem] tyOf
theorem tame:¬ wild tyOf:=fun h=>h 4 rfl
@[go_sem] theorem aBin_tame {P:Program} {lt:Nat->Option AV} {K:Eff->Prop} {op:BinOp} {ty:TypeId} {x y:Operand}:aBin P tyOf lt K op ty x y=aBin0 P lt K op ty x y:=if_neg tame
attribute [go_sem] Tryz.underlying3
attribute [go_sem] Tryz.underlying4
attribute [go_sem] Tryz.underlying9
attribute [go_sem] Tryz.underlying5
attribute [go_sem] Tryz.underlying31
attribute [go_sem] Tryz.underlying22
attribute [go_sem] Tryz.underlying76
attribute [go_sem] Tryz.underlying275
attribute [go_sem] Tryz.underlying88
attribute [go_sem] Tryz.underlying90
attribute [go_sem] Tryz.underlying84
attribute [go_sem] Tryz.underlying103
attribute [go_sem] Tryz.underlying208
attribute [go_sem] Tryz.underlying108
attribute [go_sem] Tryz.underlying24
attribute [go_sem] Tryz.underlying25
attribute [go_sem] Tryz.underlying26
attribute [go_sem] Tryz.underlying28
attribute [go_sem] Tryz.underlying52
attribute [go_sem] Tryz.underlying93
attribute [go_sem] Tryz.underlying95
attribute [go_sem] Tryz.underlying98
attribute [go_sem] Tryz.underlying57
attribute [go_sem] Tryz.underlying34
attribute [go_sem] Tryz.underlying53
attribute [go_sem] Tryz.underlying54
attribute [go_sem] Tryz.underlying55
attribute [go_sem] Tryz.underlying30
attribute [go_sem] Tryz.underlying139
attribute [go_sem] Tryz.underlying136
attribute [go_sem] Tryz.underlying145
attribute [go_sem] Tryz.underlying153
attribute [go_sem] Tryz.underlying152
attribute [go_sem] Tryz.underlying149
attribute [go_sem] Tryz.underlying32
@[go_sem] theorem bts_Point:bts Tryz.prog 103=some 112:=by kernel_rfl
@[go_sem] theorem bts_Vec:bts Tryz.prog 24=some 16:=by kernel_rfl
@[go_sem] theorem bts_int:bts Tryz.prog 3=some 8:=by kernel_rfl
@[go_sem] theorem bts_Rat:bts Tryz.prog 90=some 56:=by kernel_rfl
theorem fe {f:FuncId} {fn:Func} {code:Code} {args:List Dat} {own:Bool} {res:List Dat} {n:Nat} {rs:List ResultVar} (hf:Tryz.prog.funcs[f]? = some fn) (hn:fn.ntmps=n) (hr:fn.results=rs.toArray) (h:(∀ d ∈ args,Wf d.1 d.2)->AC Tryz.prog tyOf n code (KR tyOf rs own res) ⟨argTm 0 args,[]⟩) (hname:(fn.name == "runtime.NumGoroutine")=false:=by rfl) (hb:fn.body=some code:=by rfl) (hna:args.length <= n:=by simp):Fn Tryz.prog f args own res:=fn_enter tabOK mixes hf hname hb n hn rs hr hna h
abbrev Arg (w:World) (v:Value) (d:Dat):Prop:=∃ fp,DRep w v d fp
theorem Arg.sl {w:World} {v:Value} {a:Ty} {l:List a.den} (h:Has (Rp.slice a.rp a.pos) w [v] l):Arg w v ⟨.slice a,l⟩:=by
 obtain ⟨fp,h⟩:=h
 exact ⟨fp,[v],.inr ⟨rfl,rfl⟩,h⟩
section
variable {P:Program} {f:FuncId} {args:List Dat} {own:Bool} {t:Ty} {x:t.den} {w:World} {vs:List Value}
theorem Fn.go (h:Fn P f args own [⟨t,x⟩]) (ha:All2 (Arg w) vs args) (hg:Gw P w:=by exact Gw.none (by kernel_rfl)):Calls P f vs.toArray w fun e w'=>Below w.heap.size w w'/\∃ v,e=.returned v/\∃ fp,DRep w' v ⟨t,x⟩ fp/\(own=true->OwnFp w.heap.size w' fp):=by
 refine (h.2 w vs (fun _=>True) hg (ha.mono fun v d _ ⟨fp,h⟩=>⟨fp,h,fun _ _=>trivial⟩)).mono fun e w' ⟨hb,v,he,hr⟩=>⟨hb,v,he,?_⟩
 obtain ⟨fp,h1,h2,_⟩:=hr
 exact ⟨fp,h1,h2⟩
theorem Fn.bool {b:Bool} (h:Fn P f args own [⟨.bool,b⟩]) (ha:All2 (Arg w) vs args) (hg:Gw P w:=by exact Gw.none (by kernel_rfl)):Calls P f vs.toArray w (Post (fun v w'=>v=.bool b/\Below w.heap.size w w')):=by
 refine (h.go ha hg).mono fun e w' ⟨hb,v,he,fp,⟨cs,hp,hr⟩,_⟩=>⟨v,he,?_,hb⟩
 rcases hp with ⟨h,_⟩|⟨_,rfl⟩
 ·cases h
 ·exact List.cons.inj hr.1 |>.1
end
end Go.Proofs.YtcbionahcldlnaaGreat.DW

namespace Go.Proofs.YtcbionahcldlnaaGreat
open Go.RowKit
section
variable {H:Type} {enc:TypeId × Value->H} {w:World}
theorem Opens.u8 {P:Program} {t:TypeId} (ht:P.underlying t=some (.int .u8)):Opens enc P w t DW.RpU8:=fun fuel cs x h=>by
 obtain ⟨n,rfl,_,wn⟩:=DataW.trod_int ht h
 have:0<=n/\n<=255:=by simpa [Lit.wf,IntKind.min,IntKind.max,IntKind.signed,IntKind.bits] using wn
 exact ⟨n,[],rfl,rfl,this.1,this.2⟩
theorem oU8S:Opens enc Tryz.prog w 22 (Rp.slice DW.RpU8 Nat.one_pos):=Opens.slice Tryz.underlying22 (by kernel_rfl) (Opens.u8 Tryz.underlying5)
end
end Go.Proofs.YtcbionahcldlnaaGreat

namespace Go.Proofs.YtcbionahcldlnaaGreat.DW
open Go.RowKit
theorem limb_fn (l:List Int) (i:Int) (h0:0<=i):Fn Tryz.prog 203 [⟨tInts,l⟩,⟨.int,i⟩] false [⟨.int,ni l i.toNat⟩]:=by
 refine fe Tryz.func203 Tryz.ntmps203 Tryz.results203 fun hwf=>?_
 try simp (maxSteps:=9^9) only[go_sem]
 refine CondW_dec (fun hc=>?_) (fun hc=>?_)
 ·try simp (maxSteps:=9^9) only[go_sem]
  exact ⟨h0,hc⟩
 ·try simp (maxSteps:=9^9) only[go_sem]
  exact (ni_ge (by omega)).symm
def cmpI (a b:Int):Int:=if a < b then -1 else if b < a then 1 else 0
def cmpR (a b:List Int):Nat->Int
 | 0=>0
 | k+1=>if ni a k=ni b k then cmpR a b k else cmpI (ni a k) (ni b k)
def cmpL (a b:List Int):Int:=if a.length=b.length then cmpR a b a.length else cmpI a.length b.length
theorem cmpR_step {a b:List Int} {i:Int} (h:0<=i):cmpR a b (i+1).toNat=if ni a i.toNat=ni b i.toNat then cmpR a b i.toNat else cmpI (ni a i.toNat) (ni b i.toNat):=by
 rw [show (i+1).toNat=i.toNat+1 by omega]; rfl
theorem isNaN_fn (a:Int):Fn Tryz.prog 194 [⟨.int,a⟩] false [⟨.bool,false⟩]:=by
 refine fe Tryz.func194 Tryz.ntmps194 Tryz.results194 fun hwf=>?_
 try simp (maxSteps:=9^9) only[go_sem]
theorem compare_fn (a b:Int):Fn Tryz.prog 204 [⟨.int,a⟩,⟨.int,b⟩] false [⟨.int,cmpI a b⟩]:=by
 refine fe Tryz.func204 Tryz.ntmps204 Tryz.results204 fun hwf=>?_
 try simp (maxSteps:=9^9) only[go_sem]
 repeat refine AI ?_
 refine cw (isNaN_fn a) ?_
 try simp (maxSteps:=9^9) only[go_sem]
 repeat refine AI ?_
 refine cw (isNaN_fn b) ?_
 try simp (maxSteps:=9^9) only[go_sem]
 refine CondW_dec (fun h=>?_) (fun h=>?_)
 ·try simp (maxSteps:=9^9) only[go_sem]
  rw [cmpI,if_pos h]
 ·try simp (maxSteps:=9^9) only[go_sem]
  refine CondW_dec (fun h2=>?_) (fun h2=>?_)
  ·try simp (maxSteps:=9^9) only[go_sem]
   rw [cmpI,if_neg h,if_pos h2]
  ·try simp (maxSteps:=9^9) only[go_sem]
   rw [cmpI,if_neg h,if_neg h2]
theorem natCmp_fn (a b:List Int):Fn Tryz.prog 170 [⟨tInts,a⟩,⟨tInts,b⟩] false [⟨.int,cmpL a b⟩]:=by
 refine fe Tryz.func170 Tryz.ntmps170 Tryz.results170 fun hwf=>?_
 have ha:a.length<=9223372036854775807:=(hwf ⟨tInts,a⟩ (by simp)).1
 try simp (maxSteps:=9^9) only[go_sem]
 refine CondW_not (fun h=>?_) (fun h=>?_)
 ·have hc:cmpL a b=cmpI a.length b.length:=if_neg (by omega)
  try simp (maxSteps:=9^9) only[go_sem]
  repeat refine AI ?_
  refine cw (compare_fn a.length b.length) ?_
  try simp (maxSteps:=9^9) only[go_sem]
  exact hc.symm
 ·have hc:cmpL a b=cmpR a b a.length:=if_pos (by omega)
  try simp (maxSteps:=9^9) only[go_sem]
  refine ⟨by constructor<;>omega,?_⟩
  refine LoopG.intro _ _ _ (fun i:Int=>⟨[(0,.sl .int a),(1,.sl .int b),(5,.sc (.int .i64 i))],[]⟩) (fun i=>-1<=i/\i < a.length/\cmpR a b (i+1).toNat=cmpL a b) (fun i=>(i+1).toNat) (a.length - 1) ?_ ⟨by omega,by omega,by rw [hc]; congr 1; omega⟩ ?_
  ·exact WK
  ·rintro i ⟨h1,h2,h3⟩
   try simp (maxSteps:=9^9) only[go_sem]
   refine CondW_dec (fun h4=>?_) (fun h4=>?_)
   ·rw [cmpR_step h4] at h3
    try simp (maxSteps:=9^9) only[go_sem]
    refine ⟨h4,h2,h4,by omega,by kernel_rfl,?_⟩
    refine CondW_not (fun h5=>?_) (fun h5=>?_)
    ·rw [if_neg h5] at h3
     try simp (maxSteps:=9^9) only[go_sem]
     refine ⟨h4,h2,h4,by omega,?_⟩
     repeat refine AI ?_
     refine cw (compare_fn (ni a i.toNat) (ni b i.toNat)) ?_
     try simp (maxSteps:=9^9) only[go_sem]
     exact ⟨by kernel_rfl,h3⟩
    ·rw [if_pos h5] at h3
     try simp (maxSteps:=9^9) only[go_sem]
     refine ⟨by constructor<;>omega,LoopK.mk (i - 1) ?_ ⟨by omega,by omega,by rw [<-h3]; congr 1; omega⟩ (by omega)⟩
     exact WK
   ·try simp (maxSteps:=9^9) only[go_sem]
    rw [<-h3,show (i+1).toNat=0 by omega]; rfl
def trimN (l:List Int):Nat->Nat
 | 0=>0
 | n+1=>if ni l n=0 then trimN l n else n+1
def trimL (l:List Int):List Int:=l.take (trimN l l.length)
theorem trimN_step {l:List Int} {i:Int} (h:0 < i):trimN l i.toNat=if ni l (i - 1).toNat=0 then trimN l (i - 1).toNat else i.toNat:=by
 rw [show i.toNat=(i - 1).toNat+1 by omega]; rfl
theorem trimmed_fn (l:List Int):Fn Tryz.prog 205 [⟨tInts,l⟩] false [⟨tInts,trimL l⟩]:=by
 refine fe Tryz.func205 Tryz.ntmps205 Tryz.results205 fun hwf=>?_
 have hl:l.length<=9223372036854775807:=(hwf ⟨tInts,l⟩ (by simp)).1
 try simp (maxSteps:=9^9) only[go_sem]
 refine LoopG.intro _ _ _ (fun i:Int=>⟨[(0,.sl .int l),(3,.sc (.int .i64 i))],[]⟩) (fun i=>0<=i/\i<=l.length/\trimN l i.toNat=trimN l l.length) (fun i=>i.toNat) l.length ?_ ⟨by omega,by omega,by congr 1⟩ ?_
 ·exact WK
 ·rintro i ⟨h1,h2,h3⟩
  try simp (maxSteps:=9^9) only[go_sem]
  refine GuardW_dec (fun h4=>?_) (fun h4=>?_)
  ·rw [trimN_step h4] at h3
   try simp (maxSteps:=9^9) only[go_sem]
   refine ⟨by constructor<;>omega,by omega,by omega,?_⟩
   refine CondW_dec (fun h5=>?_) (fun h5=>?_)
   ·rw [if_pos h5] at h3
    try simp (maxSteps:=9^9) only[go_sem]
    refine ⟨by constructor<;>omega,LoopK.mk (i - 1) ?_ ⟨by omega,by omega,h3⟩ (by omega)⟩
    exact WK
   ·rw [if_neg h5] at h3
    try simp (maxSteps:=9^9) only[go_sem]
    refine ⟨h1,h2,?_⟩
    rw [h3]; rfl
  ·try simp (maxSteps:=9^9) only[go_sem]
   refine ⟨h1,h2,?_⟩
   rw [trimL,<-h3,show i.toNat=0 by omega]; rfl
def natL (n:Nat):List Int:=if h:n=0 then [] else ((n % 1000000000:Nat):Int) :: natL (n / 1000000000)
decreasing_by omega
theorem natL_zero:natL 0=[]:=by rw [natL]; rfl
theorem natL_pos {n:Nat} (h:0 < n):natL n=((n % 1000000000:Nat):Int) :: natL (n / 1000000000):=by rw [natL,dif_neg (by omega)]
theorem natL_len (k n:Nat) (h:n < 1000000000 ^ k):(natL n).length<=k:=by
 induction k generalizing n with
 | zero=>rw [show n=0 by simpa using h,natL_zero]; simp
 | succ k ih =>
  by_cases h0:n=0
  ·subst h0; rw [natL_zero]; simp
  ·rw [natL_pos (by omega)]
   have:=ih (n / 1000000000) (by rw [Nat.div_lt_iff_lt_mul (by omega)]; rwa [Nat.pow_succ] at h)
   simp; omega
theorem natL_len3 {n:Int} (h:n<=9223372036854775808):(natL n.toNat).length<=3:=natL_len 3 _ (by omega)
theorem natL_step {n:Int} (h:0 < n):natL n.toNat=n % 1000000000 :: natL (n / 1000000000).toNat:=by
 rw [natL_pos (by omega),show n.toNat / 1000000000=(n / 1000000000).toNat by omega,show ((n.toNat % 1000000000:Nat):Int)=n % 1000000000 by omega]
theorem implNatOf_fn (n:Int):Fn Tryz.prog 168 [⟨.int,n⟩] true [⟨tInts,natL n.toNat⟩]:=by
 refine fe Tryz.func168 Tryz.ntmps168 Tryz.results168 fun hwf=>?_
 have hn:I64 n:=hwf ⟨.int,n⟩ (by simp)
 have hl:=natL_len3 (n:=n) (by have:=hn.2; omega)
 try simp (maxSteps:=9^9) only[go_sem]
 refine LoopG.intro _ _ _ (fun x:Int × List Int=>⟨[(0,.sc (.int .i64 x.1)),(3,.row 0 0)],[(0,.row 3 .int 0 true x.2)]⟩) (fun x=>natL n.toNat=x.2++natL x.1.toNat) (fun x=>x.1.toNat) (n,[]) ?_ rfl ?_
 ·exact WK
 ·rintro ⟨k,dn⟩ h1
  have hdl:=congrArg List.length h1
  rw [List.length_append] at hdl
  simp only at h1 hdl
  try simp (maxSteps:=9^9) only[go_sem]
  refine CondW_dec (fun h2=>?_) (fun h2=>?_)
  ·rw [natL_step h2] at h1
   try simp (maxSteps:=9^9) only[go_sem]
   refine RemW.pos (by omega) (by decide) ?_
   try simp (maxSteps:=9^9) only[go_sem]
   refine ⟨by omega,by omega,QuoW.pos (by omega) (by decide) ?_⟩
   try simp (maxSteps:=9^9) only[go_sem]
   refine LoopK.mk (k / 1000000000,dn++[k % 1000000000]) ?_ (by simp [h1]) (by simp only; omega)
   exact WK
  ·have h3:natL k.toNat=[]:=by rw [show k.toNat=0 by omega,natL_zero]
   rw [h3,List.append_nil] at h1
   try simp (maxSteps:=9^9) only[go_sem]
   exact h1.symm
def ixf {t:Ty} (p:t.den->Bool) (l:List t.den):Int:=match l.findIdx? p with|some i=>i|none=>-1
theorem ixf_at {t:Ty} {p:t.den->Bool} {l:List t.den} {i:Nat} (hi:i < l.length) (h:p (nth l i)=true) (hb:∀ j < i,p (nth l j)=false):ixf p l=i:=by
 have:l.findIdx? p=some i:=by
  rw [List.findIdx?_eq_some_iff_getElem]
  refine ⟨hi,by rw [<-nth_lt hi]; exact h,fun j hj=>?_⟩
  rw [<-nth_lt (by omega)]; simp [hb j hj]
 rw [ixf,this]
theorem ixf_none {t:Ty} {p:t.den->Bool} {l:List t.den} (hb:∀ j < l.length,p (nth l j)=false):ixf p l=-1:=by
 have:l.findIdx? p=none:=by
  rw [List.findIdx?_eq_none_iff]
  intro x hx
  obtain ⟨j,hj,rfl⟩:=List.getElem_of_mem hx
  rw [<-nth_lt hj]; exact hb j hj
 rw [ixf,this]
theorem ixf_any {t:Ty} {p:t.den->Bool} {l:List t.den}:decide (0<=ixf p l)=l.any p:=by
 unfold ixf
 cases h:l.findIdx? p with
 | none =>
  rw [List.findIdx?_eq_none_iff] at h
  have:l.any p=false:=by rw [List.any_eq_false]; intro x hx; simp [h x hx]
  rw [this]; rfl
 | some i =>
  rw [List.findIdx?_eq_some_iff_getElem] at h
  obtain ⟨hi,hp,_⟩:=h
  have:l.any p=true:=List.any_eq_true.2 ⟨_,List.getElem_mem hi,hp⟩
  rw [this]; simp
theorem indexFunc_int_fn (F:FuncId) (p:Int->Bool) (hF:∀ x:Int,Fn Tryz.prog F [⟨.int,x⟩] false [⟨.bool,p x⟩]) (l:List Int):Fn Tryz.prog 257 [⟨.slice (.int),l⟩,⟨.cst (.fn F),()⟩] false [⟨.int,ixf (t:=.int) p l⟩]:=by
 refine fe Tryz.func257 Tryz.ntmps257 Tryz.results257 fun hwf=>?_
 have hl:l.length<=9223372036854775807:=(hwf ⟨.slice (.int),l⟩ (by simp)).1
 try simp (maxSteps:=9^9) only[go_sem]
 refine LoopG.intro _ _ _ (fun i:Int=>⟨[(0,.sl (.int) l),(1,.sc (.func (.func F) #[] #[])),(7,.sc (.int .i64 l.length)),(8,.sc (.int .i64 i))],[]⟩) (fun i=>0<=i/\∀ j < i.toNat,j < l.length->p (nth (t:=.int) l j)=false) (fun i=>(l.length - i).toNat) 0 ?_ ⟨by omega,fun j h=>by simp at h⟩ ?_
 ·exact WK
 ·rintro i ⟨h1,h2⟩
  try simp (maxSteps:=9^9) only[go_sem]
  refine CondW_dec (fun h3=>?_) (fun h3=>?_)
  ·try simp (maxSteps:=9^9) only[go_sem]
   refine ⟨h1,h3,?_⟩
   repeat refine AI ?_
   refine cw (hF (ni l i.toNat)) ?_
   try simp (maxSteps:=9^9) only[go_sem]
   refine CondW_b (fun h4=>?_) (fun h4=>?_)
   ·try simp (maxSteps:=9^9) only[go_sem]
    exact (ixf_at (by omega) h4 (fun j hj=>h2 j hj (by omega))).symm ▸ (by omega)
   ·try simp (maxSteps:=9^9) only[go_sem]
    refine ⟨by constructor<;>omega,LoopK.mk (i+1) ?_ ⟨by omega,fun j hj hl=>?_⟩ (by omega)⟩
    ·exact WK
    ·by_cases hj2:j < i.toNat
     ·exact h2 j hj2 hl
     ·rw [show j=i.toNat by omega]; exact h4
  ·try simp (maxSteps:=9^9) only[go_sem]
   exact (ixf_none fun j hj=>h2 j (by omega) hj).symm
theorem containsFunc_int_fn (F:FuncId) (p:Int->Bool) (hF:∀ x:Int,Fn Tryz.prog F [⟨.int,x⟩] false [⟨.bool,p x⟩]) (l:List Int):Fn Tryz.prog 251 [⟨.slice (.int),l⟩,⟨.cst (.fn F),()⟩] false [⟨.bool,l.any p⟩]:=by
 refine fe Tryz.func251 Tryz.ntmps251 Tryz.results251 fun hwf=>?_
 try simp (maxSteps:=9^9) only[go_sem]
 repeat refine AI ?_
 refine cw (indexFunc_int_fn F p hF l) ?_
 try simp (maxSteps:=9^9) only[go_sem]
 exact ixf_any
theorem l01In_fn (n a b:Int):Fn Tryz.prog 115 [⟨.int,n⟩,⟨.int,a⟩,⟨.int,b⟩] false [⟨.bool,decide (a<=n/\n<=b)⟩]:=by
 refine fe Tryz.func115 Tryz.ntmps115 Tryz.results115 fun hwf=>?_
 try simp (maxSteps:=9^9) only[go_sem]
 refine GuardW_dec (fun h=>?_) (fun h=>?_)
 ·try simp (maxSteps:=9^9) only[go_sem]
  simp [h]
 ·try simp (maxSteps:=9^9) only[go_sem]
  simp [h]
theorem within_fn (n a b:Int):Fn Tryz.prog 57 [⟨.int,n⟩,⟨.int,a⟩,⟨.int,b⟩] false [⟨.bool,decide (a<=n/\n<=b)⟩]:=by
 refine fe Tryz.func57 Tryz.ntmps57 Tryz.results57 fun hwf=>?_
 try simp (maxSteps:=9^9) only[go_sem]
 refine GuardW_dec (fun h=>?_) (fun h=>?_)
 ·try simp (maxSteps:=9^9) only[go_sem]
  simp [h]
 ·try simp (maxSteps:=9^9) only[go_sem]
  simp [h]
noncomputable def bdec (p:Prop):Bool:=@decide p (Classical.propDecidable p)
theorem bdec_t {p:Prop} (h:p):bdec p=true:=@decide_eq_true _ (Classical.propDecidable p) h
theorem bdec_f {p:Prop} (h:¬ p):bdec p=false:=@decide_eq_false _ (Classical.propDecidable p) h
def isLb (d:Int):Prop:=0<=d/\d<=999999999
def okNP (l:List Int):Prop:=(∀ d ∈ l,isLb d)/\l.length<=60/\(l.length=0\/ni l (l.length - 1) ≠ 0)
noncomputable def okN (l:List Int):Bool:=bdec (okNP l)
theorem natOkC_fn (x:Int):Fn Tryz.prog 252 [⟨.int,x⟩] false [⟨.bool,!decide (0<=x/\x<=999999999)⟩]:=by
 refine fe Tryz.func252 Tryz.ntmps252 Tryz.results252 fun hwf=>?_
 try simp (maxSteps:=9^9) only[go_sem]
 repeat refine AI ?_
 refine cw (within_fn x 0 999999999) ?_
 try simp (maxSteps:=9^9) only[go_sem]
theorem implNatOk_fn (l:List Int):Fn Tryz.prog 232 [⟨tInts,l⟩] false [⟨.bool,okN l⟩]:=by
 refine fe Tryz.func232 Tryz.ntmps232 Tryz.results232 fun hwf=>?_
 have hl:l.length<=9223372036854775807:=(hwf ⟨tInts,l⟩ (by simp)).1
 have hany:l.any (fun x=>!decide (0<=x/\x<=999999999))=false->∀ d ∈ l,isLb d:=fun h d hd=>by
  rw [List.any_eq_false] at h
  have:=h d hd
  show 0<=d/\d<=999999999
  simpa using this
 have hany2:l.any (fun x=>!decide (0<=x/\x<=999999999))=true->¬ ∀ d ∈ l,isLb d:=fun h hall=>by
  obtain ⟨d,hd,h⟩:=List.any_eq_true.1 h
  have:=hall d hd
  simp [this.1,this.2] at h
 try simp (maxSteps:=9^9) only[go_sem]
 refine GuardW_decf (fun h=>?_) (fun h=>?_)
 ·try simp (maxSteps:=9^9) only[go_sem]
  repeat refine AI ?_
  refine cw (containsFunc_int_fn _ _ natOkC_fn l) ?_
  try simp (maxSteps:=9^9) only[go_sem]
  refine CondW_b (fun h2=>?_) (fun h2=>?_)
  ·try simp (maxSteps:=9^9) only[go_sem]
   exact (bdec_f fun hok=>hany2 h2 hok.1).symm
  ·have hall:=hany h2
   try simp (maxSteps:=9^9) only[go_sem]
   refine GuardW_decf (fun h5=>?_) (fun h5=>?_)
   ·try simp (maxSteps:=9^9) only[go_sem]
    refine ⟨by constructor<;>omega,by omega,by omega,?_⟩
    by_cases h6:ni l (l.length - 1)=0
    ·refine (Eq.trans ?_ (bdec_f fun hok=>(hok.2.2.elim (by omega) fun h=>h h6)).symm)
     rw [show ((l.length:Int) - 1).toNat=l.length - 1 by omega]; simp [h6]
    ·refine (Eq.trans ?_ (bdec_t ⟨hall,by omega,.inr h6⟩).symm)
     rw [show ((l.length:Int) - 1).toNat=l.length - 1 by omega]; simp [h6]
   ·try simp (maxSteps:=9^9) only[go_sem]
    exact (bdec_t ⟨hall,by omega,.inl (by omega)⟩).symm
 ·try simp (maxSteps:=9^9) only[go_sem]
  refine (bdec_f fun hok=>?_).symm
  have:=hok.2.1; omega
def pw (k:Nat):Nat:=1000000000 ^ k
theorem pw_zero:pw 0=1:=rfl
theorem pw_one:pw 1=1000000000:=rfl
theorem pw_succ (k:Nat):pw (k+1)=1000000000 * pw k:=by rw [pw,Nat.pow_succ,Nat.mul_comm]; rfl
theorem pw_pos (k:Nat):0 < pw k:=Nat.pow_pos (by decide)
theorem pw_add (j k:Nat):pw (j+k)=pw j * pw k:=Nat.pow_add ..
theorem pw_le {j k:Nat} (h:j<=k):pw j<=pw k:=Nat.pow_le_pow_right (by decide) h
theorem pw_lt {j k:Nat} (h:j < k):pw j < pw k:=Nat.pow_lt_pow_right (by decide) h
theorem pw_lt_iff {j k:Nat}:pw j < pw k ↔ j < k:=⟨fun h=>by
 rcases Nat.lt_or_ge j k with h1|h1
 ·exact h1
 ·have:=pw_le h1; omega,pw_lt⟩
def dg (n i:Nat):Nat:=n / pw i % 1000000000
theorem dg_lt (n i:Nat):dg n i < 1000000000:=Nat.mod_lt _ (by decide)
theorem dg_zero (n:Nat):dg n 0=n % 1000000000:=by rw [dg,pw_zero,Nat.div_one]
theorem dg_succ (n i:Nat):dg n (i+1)=dg (n / 1000000000) i:=by rw [dg,dg,pw_succ,Nat.div_div_eq_div_mul]
theorem dg_of_lt {n i:Nat} (h:n < pw i):dg n i=0:=by rw [dg,Nat.div_eq_of_lt h]
theorem mod_pw_succ (n i:Nat):n % pw (i+1)=n % pw i+pw i * dg n i:=by
 rw [pw_succ,Nat.mul_comm,Nat.mod_mul]; rfl
theorem div_pw_succ (n i:Nat):n / pw i=1000000000 * (n / pw (i+1))+dg n i:=by
 rw [pw_succ,Nat.mul_comm 1000000000 (pw i),<-Nat.div_div_eq_div_mul]
 have:=Nat.div_add_mod (n / pw i) 1000000000
 unfold dg; omega
theorem dg_top {n i:Nat} (h:n < pw (i+1)):dg n i=n / pw i:=by
 have:=div_pw_succ n i
 rw [Nat.div_eq_of_lt h] at this
 omega
def nl (n:Nat):Nat:=(natL n).length
theorem nl_zero:nl 0=0:=by rw [nl,natL_zero]; rfl
theorem nl_pos {n:Nat} (h:0 < n):nl n=nl (n / 1000000000)+1:=by rw [nl,natL_pos h]; rfl
theorem lt_nl:∀ n:Nat,n < pw (nl n):=by
 intro n
 induction n using Nat.strongRecOn with
 | _ n ih =>
  by_cases h:n=0
  ·subst h; rw [nl_zero]; decide
  ·rw [nl_pos (by omega),pw_succ]
   have:=ih (n / 1000000000) (by omega)
   omega
theorem nl_le:∀ n:Nat,n ≠ 0->0 < nl n/\pw (nl n - 1)<=n:=by
 intro n
 induction n using Nat.strongRecOn with
 | _ n ih =>
  intro h
  rw [nl_pos (by omega),Nat.add_sub_cancel]
  refine ⟨by omega,?_⟩
  by_cases h1:n / 1000000000=0
  ·rw [h1,nl_zero,pw_zero]; omega
  ·obtain ⟨h2,h3⟩:=ih (n / 1000000000) (by omega) h1
   rw [show nl (n / 1000000000)=nl (n / 1000000000) - 1+1 by omega,pw_succ]
   omega
theorem nl_iff {n k:Nat}:nl n<=k ↔ n < pw k:=by
 constructor
 ·intro h; exact Nat.lt_of_lt_of_le (lt_nl n) (pw_le h)
 ·intro h
  by_cases h0:n=0
  ·subst h0; rw [nl_zero]; omega
  ·obtain ⟨h1,h2⟩:=nl_le n h0
   have:=pw_lt_iff.1 (Nat.lt_of_le_of_lt h2 h)
   omega
theorem lt_nl_iff {n k:Nat}:k < nl n ↔ pw k<=n:=by
 have:=nl_iff (n:=n) (k:=k); omega
theorem nl_mono {m n:Nat} (h:m<=n):nl m<=nl n:=nl_iff.2 (Nat.lt_of_le_of_lt h (lt_nl n))
theorem nl_eq_zero {n:Nat}:nl n=0 ↔ n=0:=by
 constructor
 ·intro h; by_cases h0:n=0
  ·exact h0
  ·have:=(nl_le n h0).1; omega
 ·rintro rfl; exact nl_zero
theorem nl_mul (a b:Nat):nl (a * b)<=nl a+nl b:=by
 rw [nl_iff,pw_add]
 by_cases h:b=0
 ·subst h; rw [Nat.mul_zero]; exact Nat.mul_pos (pw_pos _) (pw_pos _)
 ·exact Nat.mul_lt_mul_of_lt_of_le (lt_nl a) (Nat.le_of_lt (lt_nl b)) (pw_pos _)
theorem nl_add (a b:Nat):nl (a+b)<=max (nl a) (nl b)+1:=by
 rw [nl_iff,pw_succ]
 have h1:=Nat.lt_of_lt_of_le (lt_nl a) (pw_le (Nat.le_max_left (nl a) (nl b)))
 have h2:=Nat.lt_of_lt_of_le (lt_nl b) (pw_le (Nat.le_max_right (nl a) (nl b)))
 omega
theorem natL_len_nl (n:Nat):(natL n).length=nl n:=rfl
theorem ni_cons_zero (d:Int) (l:List Int):ni (d :: l) 0=d:=rfl
theorem ni_cons_succ (d:Int) (l:List Int) (i:Nat):ni (d :: l) (i+1)=ni l i:=rfl
theorem ni_nil (i:Nat):ni [] i=0:=rfl
theorem ni_natL:∀ (i n:Nat),ni (natL n) i=(dg n i:Nat):=by
 intro i
 induction i with
 | zero =>
  intro n
  by_cases h:n=0
  ·subst h; rw [natL_zero]; rfl
  ·rw [natL_pos (by omega),ni_cons_zero,dg_zero]
 | succ i ih =>
  intro n
  by_cases h:n=0
  ·subst h; rw [natL_zero,ni_nil,dg_of_lt (pw_pos _)]; rfl
  ·rw [natL_pos (by omega),ni_cons_succ,ih,dg_succ]
theorem list_ext_ni {l m:List Int} (hl:l.length=m.length) (h:∀ i < l.length,ni l i=ni m i):l=m:=by
 apply List.ext_getElem hl
 intro i h1 h2
 rw [<-ni_lt h1,<-ni_lt h2]; exact h i h1
def dig (n k:Nat):List Int:=(List.range k).map fun i=>((dg n i:Nat):Int)
theorem dig_len (n k:Nat):(dig n k).length=k:=by simp [dig]
theorem dig_succ (n k:Nat):dig n (k+1)=dig n k++[((dg n k:Nat):Int)]:=by simp [dig,List.range_succ]
theorem ni_dig {n k i:Nat} (h:i < k):ni (dig n k) i=(dg n i:Nat):=by
 rw [ni_lt (by rw [dig_len]; exact h)]; simp [dig]
theorem natL_dig (n:Nat):natL n=dig n (nl n):=by
 refine list_ext_ni (by rw [dig_len]; rfl) fun i hi=>?_
 rw [ni_natL,ni_dig (show i < nl n from hi)]
theorem dig_eq {n k:Nat} (h:n < pw k) (h2:k=0\/pw (k - 1)<=n):dig n k=natL n:=by
 have:nl n=k:=by
  have h1:=nl_iff.2 h
  rcases h2 with h2|h2
  ·omega
  ·have:=lt_nl_iff.2 h2; omega
 rw [natL_dig,this]
theorem trimN_eq {l:List Int} {m:Nat}:∀ n:Nat,m<=n->(∀ i,m<=i->i < n->ni l i=0)->(m=0\/ni l (m - 1) ≠ 0)->trimN l n=m:=by
 intro n
 induction n with
 | zero =>
  intro h _ _
  have:m=0:=by omega
  subst this; rfl
 | succ n ih =>
  intro h h1 h2
  rcases Nat.lt_or_ge n m with h3|h3
  ·have:m=n+1:=by omega
   subst this
   rw [trimN,if_neg]
   rcases h2 with h2|h2
   ·omega
   ·exact h2
  ·rw [trimN,if_pos (h1 n h3 (by omega))]
   exact ih h3 (fun i a b=>h1 i a (by omega)) h2
theorem trimL_dig {n k:Nat} (h:n < pw k):trimL (dig n k)=natL n:=by
 have hk:=nl_iff.2 h
 have ht:trimN (dig n k) k=nl n:=by
  refine trimN_eq k hk (fun i h1 h2=>?_) ?_
  ·rw [ni_dig h2,dg_of_lt (Nat.lt_of_lt_of_le (lt_nl n) (pw_le h1))]; rfl
  ·by_cases h0:n=0
   ·exact .inl (nl_eq_zero.2 h0)
   ·obtain ⟨h1,h2⟩:=nl_le n h0
    refine .inr ?_
    rw [ni_dig (by omega),dg_top (by rw [show nl n - 1+1=nl n by omega]; exact lt_nl n)]
    have:=Nat.div_pos h2 (pw_pos _)
    omega
 rw [trimL,dig_len,ht]
 refine list_ext_ni (by rw [List.length_take,dig_len,natL_len_nl]; omega) fun i hi=>?_
 have hi2:i < nl n:=by rw [List.length_take,dig_len] at hi; omega
 rw [ni_natL,ni_lt hi,List.getElem_take,<-ni_lt (by rw [dig_len]; omega),ni_dig (by omega)]
def val:List Int->Nat
 | []=>0
 | d :: l=>d.toNat+1000000000 * val l
def lims (l:List Int):Prop:=∀ d ∈ l,isLb d
theorem lims_natL (n:Nat):lims (natL n):=by
 rw [natL_dig]; intro d hd
 simp only [dig,List.mem_map] at hd
 obtain ⟨i,_,rfl⟩:=hd
 have:=dg_lt n i
 constructor<;>omega
theorem lims_ni {l:List Int} (h:lims l) (i:Nat):0<=ni l i/\ni l i<=999999999:=by
 by_cases hi:i < l.length
 ·rw [ni_lt hi]; exact h _ (List.getElem_mem hi)
 ·rw [ni_ge (by omega)]; omega
theorem lims_set {l:List Int} (h:lims l) (i:Nat) {d:Int} (h1:0<=d) (h2:d<=999999999):lims (l.set i d):=by
 intro x hx
 rcases List.mem_or_eq_of_mem_set hx with hx|rfl
 ·exact h x hx
 ·exact ⟨h1,h2⟩
theorem lims_app {l m:List Int} (h:lims l) (h':lims m):lims (l++m):=fun d hd=>(List.mem_append.1 hd).elim (h d) (h' d)
theorem lims_one {d:Int} (h1:0<=d) (h2:d<=999999999):lims [d]:=fun x hx=>by rw [List.mem_singleton.1 hx]; exact ⟨h1,h2⟩
theorem lims_rep (n:Nat):lims (List.replicate n 0):=fun d hd=>by rw [(List.mem_replicate.1 hd).2]; constructor<;>decide
theorem val_rep (n:Nat):val (List.replicate n 0)=0:=by
 induction n with
 | zero=>rfl
 | succ n ih=>rw [List.replicate_succ,val,ih]; rfl
theorem val_lt {l:List Int} (h:lims l):val l < pw l.length:=by
 induction l with
 | nil=>decide
 | cons d l ih =>
  have h1:=h d List.mem_cons_self
  have h2:=ih fun x hx=>h x (List.mem_cons_of_mem _ hx)
  rw [val,List.length_cons,pw_succ]
  have:=h1.1; have:=h1.2
  omega
theorem ni_val:∀ {l:List Int} (i:Nat),lims l->ni l i=(dg (val l) i:Nat)
 | [],i,_=>by rw [ni_nil,val,dg_of_lt (pw_pos _)]; rfl
 | d :: l,0,h=>by
  have h1:=h d List.mem_cons_self
  have:=h1.1; have:=h1.2
  rw [ni_cons_zero,dg_zero,val]; omega
 | d :: l,i+1,h=>by
  have h1:=h d List.mem_cons_self
  have:=h1.1; have:=h1.2
  rw [ni_cons_succ,dg_succ,val,show (d.toNat+1000000000 * val l) / 1000000000=val l by omega]
  exact ni_val i fun x hx=>h x (List.mem_cons_of_mem _ hx)
theorem eq_dig {l:List Int} (h:lims l):l=dig (val l) l.length :=
 list_ext_ni (by rw [dig_len]) fun i hi=>by rw [ni_dig hi,ni_val i h]
theorem trimL_val {l:List Int} (h:lims l):trimL l=natL (val l):=by
 have:=trimL_dig (val_lt h)
 rw [<-eq_dig h] at this
 exact this
theorem val_natL (n:Nat):val (natL n)=n:=by
 induction n using Nat.strongRecOn with
 | _ n ih =>
  by_cases h:n=0
  ·subst h; rw [natL_zero]; rfl
  ·rw [natL_pos (by omega),val,ih (n / 1000000000) (by omega)]; omega
theorem natL_inj {m n:Nat} (h:natL m=natL n):m=n:=by rw [<-val_natL m,h,val_natL]
theorem natL_nil {n:Nat}:natL n=[] ↔ n=0:=⟨fun h=>natL_inj (h.trans natL_zero.symm),fun h=>by rw [h,natL_zero]⟩
theorem val_app (l m:List Int):val (l++m)=val l+pw l.length * val m:=by
 induction l with
 | nil=>simp [val,pw_zero]
 | cons d l ih=>rw [List.cons_append,val,val,ih,List.length_cons,pw_succ,Nat.mul_assoc]; omega
theorem val_set:∀ {l:List Int} {i:Nat} (d:Int),i < l.length->val (l.set i d)+pw i * (ni l i).toNat=val l+pw i * d.toNat
 | [],i,_,h=>by simp at h
 | x :: l,0,d,_=>by rw [List.set_cons_zero,val,val,pw_zero,ni_cons_zero]; omega
 | x :: l,i+1,d,h=>by
  have:=val_set (l:=l) (i:=i) d (by simpa using h)
  rw [List.set_cons_succ,val,val,pw_succ,ni_cons_succ,Nat.mul_assoc,Nat.mul_assoc]
  omega
theorem val_nil:val []=0:=rfl
theorem val_one (d:Int):val [d]=d.toNat:=by rw [val,val_nil]; omega
theorem okN_nat {l:List Int} (h:okNP l):l=natL (val l):=by
 obtain ⟨h1,_,h3⟩:=h
 have hl:=val_lt h1
 rw [<-dig_eq hl,<-eq_dig h1]
 rcases h3 with h3|h3
 ·exact .inl h3
 ·by_cases h0:l.length=0
  ·exact .inl h0
  ·refine .inr ?_
   rw [ni_val _ h1,dg_top (by rw [show l.length - 1+1=l.length by omega]; exact hl)] at h3
   rcases Nat.lt_or_ge (val l) (pw (l.length - 1)) with h4|h4
   ·rw [Nat.div_eq_of_lt h4] at h3; exact absurd rfl h3
   ·exact h4
theorem okNP_natL {n:Nat}:okNP (natL n) ↔ nl n<=60:=by
 constructor
 ·intro h; exact h.2.1
 ·intro h
  refine ⟨lims_natL n,h,?_⟩
  by_cases h0:n=0
  ·exact .inl (nl_eq_zero.2 h0)
  ·obtain ⟨h1,h2⟩:=nl_le n h0
   refine .inr ?_
   rw [natL_len_nl,ni_natL,dg_top (by rw [show nl n - 1+1=nl n by omega]; exact lt_nl n)]
   have:=Nat.div_pos h2 (pw_pos _)
   omega
theorem okNP_iff {l:List Int}:okNP l ↔ ∃ n,l=natL n/\nl n<=60 :=
 ⟨fun h=>⟨val l,okN_nat h,okNP_natL.1 (by rw [<-okN_nat h]; exact h)⟩,fun ⟨n,e,h⟩=>by rw [e]; exact okNP_natL.2 h⟩
def cmpN (a b:Nat):Int:=if a < b then -1 else if b < a then 1 else 0
theorem cmpR_nat (a b:Nat):∀ k:Nat,cmpR (natL a) (natL b) k=cmpN (a % pw k) (b % pw k):=by
 intro k
 induction k with
 | zero=>rw [cmpR,pw_zero,Nat.mod_one,Nat.mod_one]; rfl
 | succ k ih =>
  rw [cmpR,ni_natL,ni_natL,mod_pw_succ,mod_pw_succ]
  have ha:=Nat.mod_lt a (pw_pos k)
  have hb:=Nat.mod_lt b (pw_pos k)
  split
  ·rename_i h
   rw [ih,show dg a k=dg b k by omega]
   unfold cmpN
   simp only [Nat.add_lt_add_iff_right]
  ·rename_i h
   unfold cmpI cmpN
   rcases Nat.lt_or_ge (dg a k) (dg b k) with h1|h1
   ·have:pw k * (dg a k+1)<=pw k * dg b k:=Nat.mul_le_mul_left _ h1
    rw [Nat.mul_add,Nat.mul_one] at this
    rw [if_pos (by omega),if_pos (by omega)]
   ·have:pw k * (dg b k+1)<=pw k * dg a k:=Nat.mul_le_mul_left _ (by omega)
    rw [Nat.mul_add,Nat.mul_one] at this
    rw [if_neg (by omega),if_pos (by omega),if_neg (by omega),if_pos (by omega)]
theorem cmpL_nat (a b:Nat):cmpL (natL a) (natL b)=cmpN a b:=by
 unfold cmpL
 rw [natL_len_nl,natL_len_nl]
 split
 ·rename_i h
  rw [cmpR_nat,Nat.mod_eq_of_lt (lt_nl a),h,Nat.mod_eq_of_lt (lt_nl b)]
 ·rename_i h
  unfold cmpI cmpN
  rcases Nat.lt_or_ge (nl a) (nl b) with h1|h1
  ·have h2:=lt_nl_iff.1 h1
   have:=lt_nl a
   rw [if_pos (by omega),if_pos (by omega)]
  ·have h1:nl b < nl a:=by omega
   have h2:=lt_nl_iff.1 h1
   have:=lt_nl b
   rw [if_neg (by omega),if_pos (by omega),if_neg (by omega),if_pos (by omega)]
def cry (a b i:Nat):Nat:=(a % pw i+b % pw i) / pw i
theorem cry_zero (a b:Nat):cry a b 0=0:=by rw [cry,pw_zero,Nat.mod_one,Nat.mod_one]
theorem cry_le (a b i:Nat):cry a b i<=1:=by
 have h:=pw_pos i
 have h1:=Nat.mod_lt a h
 have h2:=Nat.mod_lt b h
 have:cry a b i < 2:=by rw [cry,Nat.div_lt_iff_lt_mul h]; omega
 omega
theorem cry_sum (a b i:Nat):dg a i+dg b i+cry a b i=(a % pw (i+1)+b % pw (i+1)) / pw i:=by
 rw [mod_pw_succ,mod_pw_succ,show a % pw i+pw i * dg a i+(b % pw i+pw i * dg b i)=(a % pw i+b % pw i)+pw i * (dg a i+dg b i) by rw [Nat.mul_add]; omega,Nat.add_mul_div_left _ _ (pw_pos i),cry]
 omega
theorem cry_succ (a b i:Nat):(dg a i+dg b i+cry a b i) / 1000000000=cry a b (i+1):=by
 rw [cry_sum,cry,pw_succ,Nat.div_div_eq_div_mul,Nat.mul_comm (pw i)]
theorem dg_add_mul (n k i:Nat):dg (n+pw (i+1) * k) i=dg n i:=by
 rw [dg,dg,pw_succ,show 1000000000 * pw i * k=pw i * (1000000000 * k) by simp only [Nat.mul_assoc,Nat.mul_left_comm],Nat.add_mul_div_left _ _ (pw_pos i),Nat.add_mul_mod_self_left]
theorem cry_dg (a b i:Nat):(dg a i+dg b i+cry a b i) % 1000000000=dg (a+b) i:=by
 have e:a+b=(a % pw (i+1)+b % pw (i+1))+pw (i+1) * (a / pw (i+1)+b / pw (i+1)):=by
  have h1:=Nat.mod_add_div a (pw (i+1))
  have h2:=Nat.mod_add_div b (pw (i+1))
  rw [Nat.mul_add]; omega
 rw [e,dg_add_mul,cry_sum,dg]
theorem cry_end {a b i:Nat} (h1:nl a<=i) (h2:nl b<=i) (h3:cry a b i=0):a+b < pw i:=by
 rw [cry,Nat.mod_eq_of_lt (nl_iff.1 h1),Nat.mod_eq_of_lt (nl_iff.1 h2),Nat.div_eq_zero_iff] at h3
 have:=pw_pos i
 omega
theorem cry_big {a b i:Nat} (h:i < nl a\/i < nl b\/0 < cry a b i):pw i<=a+b:=by
 rcases h with h|h|h
 ·have:=lt_nl_iff.1 h; omega
 ·have:=lt_nl_iff.1 h; omega
 ·have h1:=Nat.mod_le a (pw i)
  have h2:=Nat.mod_le b (pw i)
  have:pw i<=a % pw i+b % pw i:=by
   rw [cry] at h
   rcases Nat.lt_or_ge (a % pw i+b % pw i) (pw i) with h3|h3
   ·rw [Nat.div_eq_of_lt h3] at h; omega
   ·exact h3
  omega
theorem sub_dg (b d i:Nat):dg (b+d) i+1000000000 * cry b d (i+1)=dg b i+dg d i+cry b d i:=by
 rw [<-cry_dg,<-cry_succ]
 exact Nat.mod_add_div _ _
theorem pw_mul_lt {a b i k:Nat} (h1:a < pw i) (h2:b < pw k):a * b < pw (i+k):=by
 rw [pw_add]
 by_cases hb:b=0
 ·subst hb; rw [Nat.mul_zero]; exact Nat.mul_pos (pw_pos i) (pw_pos k)
 ·exact Nat.mul_lt_mul_of_lt_of_le h1 (Nat.le_of_lt h2) (pw_pos k)
theorem mul_step {out:List Int} {j:Nat} {x y c n:Int} {V:Nat} (hl:lims out) (hj:j < out.length) (hx:0<=x) (hx2:x<=999999999) (hy:0<=y) (hy2:y<=999999999) (hc:0<=c) (hc2:c<=999999999) (hn:n=ni out j+x * y+c) (hv:val out+pw j * c.toNat=V) :
  0<=n/\n<=999999999999999999/\lims (out.set j (n % 1000000000))/\val (out.set j (n % 1000000000))+pw (j+1) * (n / 1000000000).toNat=V+pw j * (x * y).toNat:=by
 have h1:=lims_ni hl j
 have hxy:0<=x * y:=Int.mul_nonneg hx hy
 have hxy2:x * y<=999999999 * 999999999:=Int.mul_le_mul hx2 hy2 hy (by omega)
 refine ⟨by omega,by omega,lims_set hl j (by omega) (by omega),?_⟩
 have hs:=val_set (n % 1000000000) hj
 generalize val (out.set j (n % 1000000000))=v' at *
 rw [pw_succ]
 have e1:n.toNat=(ni out j).toNat+(x * y).toNat+c.toNat:=by omega
 have e2:n.toNat=(n % 1000000000).toNat+1000000000 * (n / 1000000000).toNat:=by omega
 generalize (ni out j).toNat=o at *
 generalize (x * y).toNat=p at *
 generalize c.toNat=cc at *
 generalize (n % 1000000000).toNat=r at *
 generalize (n / 1000000000).toNat=q at *
 have e3:pw j * n.toNat=pw j * o+pw j * p+pw j * cc:=by rw [e1,Nat.mul_add,Nat.mul_add]
 have e4:pw j * n.toNat=pw j * r+1000000000 * pw j * q:=by
  rw [e2,Nat.mul_add,<-Nat.mul_assoc,Nat.mul_comm (pw j) 1000000000]
 omega
theorem mul_row (a b i k:Nat):a % pw i * b+pw i * (dg a i * (b % pw k))+pw (i+k) * (dg a i * dg b k)=a % pw i * b+pw i * (dg a i * (b % pw (k+1))):=by
 rw [mod_pw_succ,pw_add,Nat.mul_add (dg a i),Nat.mul_add (pw i),<-Nat.add_assoc]
 congr 1
 simp only [Nat.mul_assoc,Nat.mul_left_comm,Nat.mul_comm]
theorem mul_rowEnd {a b i k:Nat} (h:nl b<=k):a % pw i * b+pw i * (dg a i * (b % pw k))=a % pw (i+1) * b:=by
 rw [Nat.mod_eq_of_lt (nl_iff.1 h),mod_pw_succ,Nat.add_mul,Nat.mul_assoc]
theorem mul_rowLt (a b i k:Nat):a % pw i * b+pw i * (dg a i * (b % pw k)) < pw (i+1+nl b):=by
 have h1:a % pw i * b+pw i * (dg a i * (b % pw k))<=a % pw (i+1) * b:=by
  rw [mod_pw_succ,Nat.add_mul,Nat.mul_assoc]
  exact Nat.add_le_add_left (Nat.mul_le_mul_left _ (Nat.mul_le_mul_left _ (Nat.mod_le _ _))) _
 exact Nat.lt_of_le_of_lt h1 (pw_mul_lt (Nat.mod_lt _ (pw_pos _)) (lt_nl b))
theorem small_step {a n i:Nat} (hn:0 < n):(a / pw (i+1) % n * 1000000000+dg a i) % n=a / pw i % n/\a / pw i / n=1000000000 * (a / pw (i+1) / n)+(a / pw (i+1) % n * 1000000000+dg a i) / n/\(a / pw (i+1) % n * 1000000000+dg a i) / n < 1000000000:=by
 have h1:=div_pw_succ a i
 have h2:=dg_lt a i
 generalize dg a i=d at *
 generalize a / pw (i+1)=q at *
 have h3:=Nat.mod_add_div q n
 have h4:=Nat.mod_lt q hn
 have h5:a / pw i=q % n * 1000000000+d+n * (1000000000 * (q / n)):=by
  rw [h1,Nat.mul_left_comm]; omega
 rw [h5]
 generalize q % n=r at *
 refine ⟨by rw [Nat.add_mul_mod_self_left],by rw [Nat.add_mul_div_left _ _ hn]; omega,?_⟩
 rw [Nat.div_lt_iff_lt_mul hn]
 have:(r+1) * 1000000000<=n * 1000000000:=Nat.mul_le_mul_right _ h4
 rw [Nat.mul_comm 1000000000 n]
 omega
theorem small_set {out:List Int} {i v:Nat} {V:Nat} (hl:lims out) (hi:i < out.length) (hv:v < 1000000000) (hV:val out=pw (i+1) * V):lims (out.set i (v:Int))/\val (out.set i (v:Int))=pw i * (1000000000 * V+v):=by
 refine ⟨lims_set hl i (by omega) (by omega),?_⟩
 have hs:=val_set (v:Int) hi
 have h0:ni out i=0:=by
  rw [ni_val i hl,hV,dg,pw_succ,Nat.mul_assoc,Nat.mul_left_comm,Nat.mul_div_cancel_left _ (pw_pos i),Nat.mul_mod_right]; rfl
 rw [h0,hV,Int.toNat_natCast,pw_succ] at hs
 rw [Nat.mul_add,<-Nat.mul_assoc,Nat.mul_comm (pw i) 1000000000]
 simpa using hs
attribute [go_sem] ni_natL natL_len_nl
theorem app1 {l:List Int} {x y:Int} (h:x=y):l++[x]=l++[y]:=by rw [h]
theorem natAdd_fn (a b:Nat) (ha:nl a<=100000) (hb:nl b<=100000):Fn Tryz.prog 169 [⟨tInts,natL a⟩,⟨tInts,natL b⟩] true [⟨tInts,natL (a+b)⟩]:=by
 refine fe Tryz.func169 Tryz.ntmps169 Tryz.results169 fun hwf=>?_
 try simp (maxSteps:=9^9) only[go_sem]
 refine ⟨by constructor<;>omega,by omega,by omega,?_⟩
 refine LoopG.intro _ _ _ (fun i:Nat=>⟨[(0,.sl .int (natL a)),(1,.sl .int (natL b)),(5,.row 0 0),(6,.sc (.int .i64 (cry a b i:Nat))),(7,.sc (.int .i64 i))],[(0,.row 3 .int 0 true (dig (a+b) i))]⟩) (fun i=>i<=100001/\(i=0\/pw (i - 1)<=a+b)) (fun i=>100002 - i) 0 ?_ ⟨by omega,.inl rfl⟩ ?_
 ·refine Wk.mk [] ?_
  try simp (maxSteps:=9^9) only[go_sem]
  try (and_intros<;>first|rfl|omega|exact ⟨_,rfl⟩)
  all_goals (exact ⟨⟨by rw [cry_zero]; rfl,rfl⟩,rfl⟩)
 ·rintro i ⟨h1,h2⟩
  have hcl:=cry_le a b i
  by_cases hc:(i:Int) < nl a\/(i:Int) < nl b\/(0:Int) < (cry a b i:Nat)
  ·have hbig:pw i<=a+b:=cry_big (by omega)
   have hi:i<=100000:=by
    have:=nl_add a b
    have:=lt_nl_iff.2 hbig
    omega
   have hda:=dg_lt a i
   have hdb:=dg_lt b i
   have hp:(i:Int) < nl a\/(¬ (i:Int) < nl a/\(i:Int) < nl b)\/(¬ (i:Int) < nl a/\¬ (i:Int) < nl b/\(0:Int) < (cry a b i:Nat)):=by omega
   rcases hp with hA|⟨hA,hB⟩|⟨hA,hB,hC⟩
   all_goals first|simp (maxSteps:=9^9) only[go_sem,hA,hB,hC]|simp (maxSteps:=9^9) only[go_sem,hA,hB]|simp (maxSteps:=9^9) only[go_sem,hA]
   all_goals
    repeat refine AI ?_
    refine cw (limb_fn (natL a) i (by omega)) ?_
    try simp (maxSteps:=9^9) only[go_sem]
    repeat refine AI ?_
    refine cw (limb_fn (natL b) i (by omega)) ?_
    try simp (maxSteps:=9^9) only[go_sem]
    refine ⟨by constructor<;>omega,by constructor<;>omega,RemW.pos (by omega) (by decide) ?_⟩
    try simp (maxSteps:=9^9) only[go_sem,dig_len]
    refine ⟨by omega,by omega,QuoW.pos (by omega) (by decide) ?_⟩
    try simp (maxSteps:=9^9) only[go_sem]
    refine ⟨by constructor<;>omega,LoopK.mk (i+1) ?_ ⟨by omega,.inr hbig⟩ (by omega)⟩
    refine Wk.mk [] ?_
    try simp (maxSteps:=9^9) only[go_sem]
    try (and_intros<;>first|rfl|omega|exact ⟨_,rfl⟩)
    all_goals (rw [dig_succ,<-cry_dg a b i,<-cry_succ a b i]; exact ⟨⟨by omega,rfl⟩,app1 (by omega)⟩)
  ·have hA:¬ (i:Int) < nl a:=by omega
   have hB:¬ (i:Int) < nl b:=by omega
   have hC:¬ (0:Int) < (cry a b i:Nat):=by omega
   try simp (maxSteps:=9^9) only[go_sem,hA,hB,hC]
   exact dig_eq (cry_end (by omega) (by omega) (by omega)) (by omega)
theorem natSub_fn' (b d:Nat) (ha:nl (b+d)<=100000):Fn Tryz.prog 212 [⟨tInts,natL (b+d)⟩,⟨tInts,natL b⟩] false [⟨tInts,natL d⟩]:=by
 refine fe Tryz.func212 Tryz.ntmps212 Tryz.results212 fun hwf=>?_
 try simp (maxSteps:=9^9) only[go_sem]
 refine ⟨by omega,by omega,?_⟩
 refine LoopG.intro _ _ _ (fun i:Nat=>⟨[(0,.sl .int (natL (b+d))),(1,.sl .int (natL b)),(5,.row 0 0),(6,.sc (.int .i64 (cry b d i:Nat))),(13,.sc (.int .i64 (nl (b+d)))),(14,.sc (.int .i64 i))],[(0,.row 3 .int 0 true (dig d i))]⟩) (fun i=>i<=nl (b+d)) (fun i=>nl (b+d) - i) 0 ?_ (by omega) ?_
 ·refine Wk.mk [] ?_
  try simp (maxSteps:=9^9) only[go_sem]
  try (and_intros<;>first|rfl|omega|exact ⟨_,rfl⟩)
  all_goals (exact ⟨⟨by rw [cry_zero]; rfl,rfl⟩,rfl⟩)
 ·rintro i h1
  have hs:=sub_dg b d i
  have hc1:=cry_le b d i
  have hc2:=cry_le b d (i+1)
  have hd1:=dg_lt b i
  have hd2:=dg_lt d i
  have hd3:=dg_lt (b+d) i
  try simp (maxSteps:=9^9) only[go_sem]
  refine CondW_dec (fun hA=>?_) (fun hA=>?_)
  ·try simp (maxSteps:=9^9) only[go_sem,hA]
   refine ⟨by omega,?_⟩
   repeat refine AI ?_
   refine cw (limb_fn (natL b) i (by omega)) ?_
   try simp (maxSteps:=9^9) only[go_sem]
   refine ⟨by constructor<;>omega,by constructor<;>omega,by kernel_rfl,?_⟩
   refine CondW_dec (fun hB=>?_) (fun hB=>?_)
   ·try simp (maxSteps:=9^9) only[go_sem]
    refine ⟨by constructor<;>omega,?_⟩
    try simp (maxSteps:=9^9) only[go_sem,dig_len]
    refine ⟨by omega,by omega,by constructor<;>omega,LoopK.mk (i+1) ?_ (by omega) (by omega)⟩
    refine Wk.mk [] ?_
    try simp (maxSteps:=9^9) only[go_sem]
    try (and_intros<;>first|rfl|omega|exact ⟨_,rfl⟩)
    all_goals (rw [dig_succ]; exact ⟨⟨by omega,by omega⟩,app1 (by omega)⟩)
   ·try simp (maxSteps:=9^9) only[go_sem,dig_len]
    refine ⟨by omega,by omega,by constructor<;>omega,LoopK.mk (i+1) ?_ (by omega) (by omega)⟩
    refine Wk.mk [] ?_
    try simp (maxSteps:=9^9) only[go_sem]
    try (and_intros<;>first|rfl|omega|exact ⟨_,rfl⟩)
    all_goals (rw [dig_succ]; exact ⟨⟨by omega,by omega⟩,app1 (by omega)⟩)
  ·try simp (maxSteps:=9^9) only[go_sem,hA]
   repeat refine AI ?_
   refine cw (trimmed_fn (dig d i)) ?_
   try simp (maxSteps:=9^9) only[go_sem]
   exact trimL_dig (Nat.lt_of_le_of_lt (Nat.le_add_left d b) (nl_iff.1 (by omega)))
theorem natSub_fn (a b:Nat) (hab:b<=a) (ha:nl a<=100000):Fn Tryz.prog 212 [⟨tInts,natL a⟩,⟨tInts,natL b⟩] false [⟨tInts,natL (a - b)⟩]:=by
 obtain ⟨d,rfl⟩:=Nat.le.dest hab
 rw [Nat.add_sub_cancel_left]
 exact natSub_fn' b d ha
theorem toNat_mul_dg (a b i k:Nat):((dg a i:Int) * (dg b k:Int)).toNat=dg a i * dg b k:=by rw [<-Int.natCast_mul,Int.toNat_natCast]
theorem toNat_addc (i k:Nat):((i:Int)+(k:Int)).toNat=i+k:=by omega
attribute [go_sem] toNat_addc ne_eq
theorem natMul_fn (a b:Nat) (ha:nl a<=100000) (hb:nl b<=100000):Fn Tryz.prog 172 [⟨tInts,natL a⟩,⟨tInts,natL b⟩] false [⟨tInts,natL (a * b)⟩]:=by
 refine fe Tryz.func172 Tryz.ntmps172 Tryz.results172 fun hwf=>?_
 try simp (maxSteps:=9^9) only[go_sem]
 repeat refine AI ?_
 refine LoopG.intro _ _ _ (fun x:Nat × List Int=>⟨[(0,.sl .int (natL a)),(1,.sl .int (natL b)),(5,.row 0 0),(17,.sl .int (natL a)),(18,.sc (.int .i64 (nl a))),(19,.sc (.int .i64 x.1))],[(0,.row 3 .int 0 true x.2)]⟩) (fun x=>x.1<=nl a/\lims x.2/\x.2.length=nl a+nl b/\val x.2=a % pw x.1 * b) (fun x=>nl a - x.1) (0,List.replicate (nl a+nl b) 0) ?_ ⟨by simp,lims_rep _,by simp,by simp [val_rep,pw_zero,Nat.mod_one]⟩ ?_
 ·exact WK
 ·rintro ⟨i,out⟩ ⟨h1,h2,h3,h4⟩
  simp only at h1 h2 h3 h4
  have hd1:=dg_lt a i
  try simp (maxSteps:=9^9) only[go_sem]
  refine CondW_dec (fun hA=>?_) (fun hA=>?_)
  ·try simp (maxSteps:=9^9) only[go_sem,hA]
   repeat refine AI ?_
   refine LoopG.intro _ _ _ (fun x:Nat × Int × List Int=>⟨[(0,.sl .int (natL a)),(1,.sl .int (natL b)),(5,.row 0 0),(6,.sc (.int .i64 i)),(7,.sc (.int .i64 (dg a i))),(8,.sc (.int .i64 x.2.1)),(9,.sc (.int .i64 x.1)),(17,.sl .int (natL a)),(18,.sc (.int .i64 (nl a))),(19,.sc (.int .i64 i))],[(0,.row 3 .int 0 true x.2.2)]⟩) (fun x=>x.1<=nl b+1/\0<=x.2.1/\x.2.1<=999999999/\lims x.2.2/\x.2.2.length=nl a+nl b/\val x.2.2+pw (i+x.1) * x.2.1.toNat=a % pw i * b+pw i * (dg a i * (b % pw x.1))) (fun x=>nl b+1 - x.1) (0,0,out) ?_ ⟨by simp,by simp,by simp,h2,h3,by simp [h4,pw_zero,Nat.mod_one]⟩ ?_
   ·exact WK
   ·rintro ⟨k,c,ou⟩ ⟨g1,g2,g3,g4,g5,g6⟩
    simp only at g1 g2 g3 g4 g5 g6
    by_cases hc:(k:Int) < nl b\/0 < c
    ·have hk:k<=nl b:=by
      rcases hc with hc|hc
      ·omega
      ·have e1:=mul_rowLt a b i k
       rw [<-g6] at e1
       have e2:pw (i+k) * 1<=pw (i+k) * c.toNat:=Nat.mul_le_mul_left _ (by omega)
       have e3:pw (i+k) < pw (i+1+nl b):=by omega
       have:=pw_lt_iff.1 e3
       omega
     have hd2:=dg_lt b k
     obtain ⟨m1,m2,m3,m4⟩:=mul_step (j:=i+k) (x:=dg a i) (y:=dg b k) (c:=c) (n:=ni ou (i+k)+dg a i * dg b k+c) g4 (by omega) (by omega) (by omega) (by omega) (by omega) g2 g3 rfl g6
     rw [toNat_mul_dg,mul_row] at m4
     have hni:=lims_ni g4 (i+k)
     have hmm:0<=(dg a i:Int) * (dg b k:Int):=Int.mul_nonneg (by omega) (by omega)
     generalize hmg:(dg a i:Int) * (dg b k:Int)=mm at *
     have hp:(k:Int) < nl b\/(¬ (k:Int) < nl b/\0 < c):=by omega
     rcases hp with hB|⟨hB,hC⟩
     all_goals first|simp (maxSteps:=9^9) only[go_sem,hB,hC]|simp (maxSteps:=9^9) only[go_sem,hB]
     all_goals
      repeat refine AI ?_
      repeat refine AI ?_
      refine cw (limb_fn (natL b) k (by omega)) ?_
      try simp (maxSteps:=9^9) only[go_sem]
      rw [hmg]
      repeat refine AI ?_
      refine RemW.pos (by omega) (by decide) ?_
      try simp (maxSteps:=9^9) only[go_sem]
      repeat refine AI ?_
      refine QuoW.pos (by omega) (by decide) ?_
      try simp (maxSteps:=9^9) only[go_sem]
      refine ⟨by constructor<;>omega,LoopK.mk (k+1,(ni ou (i+k)+mm+c) / 1000000000,ou.set (i+k) ((ni ou (i+k)+mm+c) % 1000000000)) ?_ ⟨by simp only; omega,by simp only; omega,by simp only; omega,m3,by simp [g5],m4⟩ (by simp only; omega)⟩
      exact WK
    ·have hB:¬ (k:Int) < nl b:=by omega
     have hC:¬ 0 < c:=by omega
     have hc0:c=0:=by omega
     try simp (maxSteps:=9^9) only[go_sem,hB,hC]
     subst hc0
     rw [mul_rowEnd (by omega)] at g6
     refine ⟨by constructor<;>omega,LoopK.mk (i+1,ou) ?_ ⟨by simp only; omega,g4,g5,by simpa using g6⟩ (by simp only; omega)⟩
     exact WK
  ·try simp (maxSteps:=9^9) only[go_sem,hA]
   repeat refine AI ?_
   refine cw (trimmed_fn out) ?_
   try simp (maxSteps:=9^9) only[go_sem]
   rw [trimL_val h2,h4,Nat.mod_eq_of_lt (nl_iff.1 (by omega))]
theorem natDivSmall_fn (a n:Nat) (hn:0 < n) (hn2:n < 1000000000) (ha:nl a<=100000):Fn Tryz.prog 240 [⟨tInts,natL a⟩,⟨.int,(n:Int)⟩] false [⟨tInts,natL (a / n)⟩,⟨.int,((a % n:Nat):Int)⟩]:=by
 refine fe Tryz.func240 Tryz.ntmps240 Tryz.results240 fun hwf=>?_
 try simp (maxSteps:=9^9) only[go_sem]
 repeat refine AI ?_
 refine LoopG.intro _ _ _ (fun x:Nat × List Int=>⟨[(0,.sl .int (natL a)),(1,.sc (.int .i64 n)),(6,.row 0 0),(7,.sc (.int .i64 (a / pw x.1 % n:Nat))),(8,.sc (.int .i64 ((x.1:Int) - 1)))],[(0,.row 3 .int 0 true x.2)]⟩) (fun x=>x.1<=nl a/\lims x.2/\x.2.length=nl a/\val x.2=pw x.1 * (a / pw x.1 / n)) (fun x=>x.1) (nl a,List.replicate (nl a) 0) ?_ ⟨by simp,lims_rep _,by simp,by simp [val_rep,Nat.div_eq_of_lt (lt_nl a)]⟩ ?_
 ·refine Wk.mk [] ?_
  try simp (maxSteps:=9^9) only[go_sem]
  try (and_intros<;>first|rfl|omega|exact ⟨_,rfl⟩)
  all_goals (simp [Nat.div_eq_of_lt (lt_nl a)])
 ·rintro ⟨t,out⟩ ⟨h1,h2,h3,h4⟩
  simp only at h1 h2 h3 h4
  have hml:=Nat.mod_lt (a / pw t) hn
  try simp (maxSteps:=9^9) only[go_sem]
  refine CondW_dec (fun hA=>?_) (fun hA=>?_)
  ·obtain ⟨i,rfl⟩:∃ i,t=i+1:=⟨t - 1,by omega⟩
   have hd1:=dg_lt a i
   obtain ⟨s1,s2,s3⟩:=small_step (a:=a) (i:=i) hn
   obtain ⟨s4,s5⟩:=small_set h2 (show i < out.length by omega) s3 h4
   have ei:((i+1:Nat):Int) - 1=i:=by omega
   try simp (maxSteps:=9^9) only[go_sem,ei]
   repeat refine AI ?_
   refine QuoW.pos (by omega) (by omega) ?_
   try simp (maxSteps:=9^9) only[go_sem]
   repeat refine AI ?_
   refine RemW.pos (by omega) (by omega) ?_
   try simp (maxSteps:=9^9) only[go_sem]
   repeat refine AI ?_
   have eq1:(((a / pw (i+1) % n:Nat):Int) * 1000000000+(dg a i:Int)) / (n:Int)=(((a / pw (i+1) % n * 1000000000+dg a i) / n:Nat):Int):=by
    rw [Int.natCast_ediv]; congr 1
   have eq2:(((a / pw (i+1) % n:Nat):Int) * 1000000000+(dg a i:Int)) % (n:Int)=((a / pw i % n:Nat):Int):=by
    rw [<-s1,Int.natCast_emod]; congr 1
   refine LoopK.mk (i,out.set i (((a / pw (i+1) % n * 1000000000+dg a i) / n:Nat):Int)) ?_ ⟨by simp only; omega,s4,by simp [h3],by simp only; rw [s5,s2]⟩ (by simp only; omega)
   refine Wk.mk [] ?_
   try simp (maxSteps:=9^9) only[go_sem]
   try (and_intros<;>first|rfl|omega|exact ⟨_,rfl⟩)
   all_goals (rw [eq1,eq2]; exact ⟨rfl,rfl⟩)
  ·have ht:t=0:=by omega
   subst ht
   try simp (maxSteps:=9^9) only[go_sem,hA]
   repeat refine AI ?_
   refine cw (trimmed_fn out) ?_
   try simp (maxSteps:=9^9) only[go_sem]
   rw [trimL_val h2,h4,pw_zero,Nat.div_one,Nat.one_mul]
   exact ⟨rfl,rfl⟩
end Go.Proofs.YtcbionahcldlnaaGreat.DW

namespace Go.Proofs.YtcbionahcldlnaaGreat.DW
open Ieee
theorem uu_ex:∃ u:Nat,u=2 ^ 1074:=⟨_,rfl⟩
theorem gg_ex:∃ u:Nat,u=2 ^ 1000:=⟨_,rfl⟩
theorem ll_ex:∃ u:Nat,u=2 ^ 2000:=⟨_,rfl⟩
noncomputable def UU:Nat:=Classical.choose uu_ex
noncomputable def GG:Nat:=Classical.choose gg_ex
noncomputable def LL:Nat:=Classical.choose ll_ex
theorem uu_def:UU=2 ^ 1074:=Classical.choose_spec uu_ex
theorem gg_def:GG=2 ^ 1000:=Classical.choose_spec gg_ex
theorem ll_def:LL=2 ^ 2000:=Classical.choose_spec ll_ex
def Rd (x R:Nat):Prop:=∃ m k:Nat,double.read x=.number false m ((k:Int) - 1074)/\m < 2 ^ 53/\k<=2000/\R=m * 2 ^ k
def Near (T N:Nat):Prop:=T * 2 ^ 53<=N * 2 ^ 53+N/\N * 2 ^ 53<=T * 2 ^ 53+N
theorem near_refl (N:Nat):Near N N:=⟨Nat.le_add_right ..,Nat.le_add_right ..⟩
theorem double_least:double.leastPlace=-1074:=by decide
theorem double_binade:double.binade=2 ^ 52:=by decide
theorem double_inf:double.infRung=2047 * 2 ^ 52:=by decide
theorem double_sign:double.signWeight=2 ^ 63:=by decide
theorem read_rung {t kept:Nat} (h1:kept<=2 ^ 53) (h2:t=0\/2 ^ 52<=kept) (h3:t<=1990):Rd (t * 2 ^ 52+kept) (kept * 2 ^ t):=by
 have hlt:t * 2 ^ 52+kept < 2047 * 2 ^ 52:=by omega
 unfold Rd Format.read
 simp only [double_least,double_binade,double_inf,double_sign]
 have e1:(t * 2 ^ 52+kept) / 2 ^ 63 % 2=0:=by rw [Nat.div_eq_of_lt (by omega)]
 have e2:(t * 2 ^ 52+kept) % 2 ^ 63=t * 2 ^ 52+kept:=Nat.mod_eq_of_lt (by omega)
 rw [e1,e2]
 by_cases ha:t * 2 ^ 52+kept < 2 ^ 52
 ·have ht:t=0:=by omega
  subst ht
  refine ⟨kept,0,?_,by omega,by omega,rfl⟩
  rw [if_pos ha]
  simp
 ·rw [if_neg ha,if_pos hlt]
  by_cases hk:kept=2 ^ 53
  ·subst hk
   refine ⟨2 ^ 52,t+1,?_,by decide,by omega,by rw [Nat.pow_succ]; omega⟩
   have e3:(t * 2 ^ 52+2 ^ 53) % 2 ^ 52=0:=by omega
   have e4:(t * 2 ^ 52+2 ^ 53) / 2 ^ 52=t+2:=by omega
   rw [e3,e4]
   simp
   omega
  ·refine ⟨kept,t,?_,by omega,by omega,rfl⟩
   have e3:(t * 2 ^ 52+kept) % 2 ^ 52=kept - 2 ^ 52:=by omega
   have e4:(t * 2 ^ 52+kept) / 2 ^ 52=t+1:=by omega
   rw [e3,e4]
   simp
   omega
theorem cut_zero (n:Nat):Toward.even.cut false n 0=n:=by
 simp [Toward.cut,Nat.mod_one]
theorem cut_near {n d:Nat} (hd:d<=n.log2+2):2 * (Toward.even.cut false n d * 2 ^ d)<=2 * n+2 ^ d/\2 * n<=2 * (Toward.even.cut false n d * 2 ^ d)+2 ^ d/\n / 2 ^ d<=Toward.even.cut false n d/\Toward.even.cut false n d<=n / 2 ^ d+1:=by
 have hg:(1:Nat) <<< min d (n.log2+2)=2 ^ d:=by rw [Nat.min_eq_left hd,Nat.one_shiftLeft]
 have hdm:=Nat.div_add_mod n (2 ^ d)
 have hml:=Nat.mod_lt n (Nat.two_pow_pos d)
 rw [Nat.mul_comm] at hdm
 unfold Toward.cut
 simp only [hg]
 generalize n / 2 ^ d=q at *
 generalize n % 2 ^ d=r at *
 generalize 2 ^ d=g at *
 by_cases h:(decide (g < 2 * r) || g == 2 * r && q % 2 == 1)=true
 ·rw [h]
  simp only [Bool.or_eq_true,decide_eq_true_eq,Bool.and_eq_true,beq_iff_eq] at h
  rw [Bool.toNat_true,Nat.add_mul,Nat.one_mul]
  omega
 ·rw [Bool.not_eq_true] at h
  rw [h]
  simp only [Bool.or_eq_false_iff,decide_eq_false_iff_not,Bool.and_eq_false_iff,beq_eq_false_iff_ne] at h
  rw [Bool.toNat_false,Nat.add_zero]
  omega
theorem lin1 {K M g:Nat} (c1:2 * K<=2 * M+g) (c2:2 * M<=2 * K+g) (hg:2 ^ 52 * g<=M):K * 2 ^ 53<=M * 2 ^ 53+M/\M * 2 ^ 53<=K * 2 ^ 53+M:=by omega
theorem lin2 {M D n:Nat} (g1:M<=2 * D+n) (g2:2 * D<=M+n) (hb:2 ^ 53 * n<=D):M * 2 ^ 53<=2 * D * 2 ^ 53+2 * D/\2 * D * 2 ^ 53<=M * 2 ^ 53+2 * D:=by omega
theorem pmul_lt {n a b c:Nat} (h:n < 2 ^ a) (hc:a+b<=c):n * 2 ^ b < 2 ^ c:=by
 have h1:n * 2 ^ b < 2 ^ a * 2 ^ b:=Nat.mul_lt_mul_of_pos_right h (Nat.two_pow_pos b)
 rw [<-Nat.pow_add] at h1
 exact Nat.lt_of_lt_of_le h1 (Nat.pow_le_pow_right (by decide) hc)
theorem pow_split {a b c:Nat} (h:c=a+b):2 ^ c=2 ^ a * 2 ^ b:=by rw [h,Nat.pow_add]
theorem pow_join {a b c d:Nat} (h:a+b=c+d):2 ^ a * 2 ^ b=2 ^ c * 2 ^ d:=by rw [<-Nat.pow_add,<-Nat.pow_add,h]
theorem lt_cancel {a b c:Nat} (h:a * c < b * c):a < b:=Nat.lt_of_mul_lt_mul_right h
theorem not_le_zero_pow {k:Nat} (h:2 ^ k<=0):False:=absurd h (Nat.not_le_of_gt (Nat.two_pow_pos k))
theorem ple {a b:Nat} (h:a<=b):2 ^ a<=2 ^ b:=Nat.pow_le_pow_right (by decide) h
theorem pow_le_pow2 {a b:Nat} (h:2 ^ a < 2 ^ b):a < b:=(Nat.pow_lt_pow_iff_right (by decide)).1 h
theorem pjoin {i u mo q:Nat} (h:i+u=mo+1+q):2 ^ i * 2 ^ u=2 * 2 ^ mo * 2 ^ q:=by
 rw [<-Nat.pow_add,show (2:Nat) * 2 ^ mo=2 ^ (mo+1) by rw [Nat.pow_succ,Nat.mul_comm],<-Nat.pow_add,h]
theorem nearest_ok {mag p:Nat} (h:mag * 2 ^ p < 2 ^ 2000):∃ R,Rd (double.nearest false mag ((p:Int) - 1074)) R/\Near R (mag * 2 ^ p):=by
 by_cases h0:mag=0
 ·subst h0
  refine ⟨0,?_,by rw [Nat.zero_mul]; exact near_refl 0⟩
  have:double.nearest false 0 ((p:Int) - 1074)=0 * 2 ^ 52+0:=by simp [Format.nearest,Format.word]
  rw [this]
  have:=read_rung (t:=0) (kept:=0) (by decide) (.inl rfl) (by decide)
  simpa using this
 have hl1:2 ^ mag.log2<=mag:=Nat.log2_self_le h0
 have hl2:mag < 2 ^ (mag.log2+1):=Nat.lt_log2_self
 generalize hlog:mag.log2=lg at *
 have hlp:lg+p < 2000:=by
  apply pow_le_pow2
  rw [Nat.pow_add]
  exact Nat.lt_of_le_of_lt (Nat.mul_le_mul_right _ hl1) h
 have hlast:max ((p:Int) - 1074+lg - 52) (-1074)=((p+lg - 52:Nat):Int) - 1074:=by omega
 have hnear:double.nearest false mag ((p:Int) - 1074)=min ((p+lg - 52) * 2 ^ 52+Toward.even.cut false (mag <<< (p - (p+lg - 52))) (p+lg - 52 - p)) (2047 * 2 ^ 52):=by
  unfold Format.nearest
  rw [if_neg h0]
  simp only [double_least,double_binade,double_inf,hlog]
  have hf:(double.fractionBits:Int)=52:=rfl
  rw [hf,hlast]
  have e1:((((p+lg - 52:Nat):Int) - 1074) - -1074).toNat=p+lg - 52:=by omega
  have e2:((p:Int) - 1074 - (((p+lg - 52:Nat):Int) - 1074)).toNat=p - (p+lg - 52):=by omega
  have e3:((((p+lg - 52:Nat):Int) - 1074) - ((p:Int) - 1074)).toNat=p+lg - 52 - p:=by omega
  rw [e1,e2,e3]
  simp [Format.word]
 rw [hnear]
 generalize ht:p+lg - 52=t
 by_cases hc:t<=p
 ·
  rw [show t - p=0 by omega,cut_zero,Nat.shiftLeft_eq]
  have hk1:mag * 2 ^ (p - t) < 2 ^ 53:=by
   have:mag * 2 ^ (p - t) < 2 ^ (lg+1) * 2 ^ (p - t):=Nat.mul_lt_mul_of_pos_right hl2 (Nat.two_pow_pos _)
   rw [<-Nat.pow_add] at this
   exact Nat.lt_of_lt_of_le this (Nat.pow_le_pow_right (by decide) (by omega))
  have hk2:t=0\/2 ^ 52<=mag * 2 ^ (p - t):=by
   by_cases h00:t=0
   ·exact .inl h00
   ·refine .inr ?_
    have:2 ^ lg * 2 ^ (p - t)<=mag * 2 ^ (p - t):=Nat.mul_le_mul_right _ hl1
    rw [<-Nat.pow_add] at this
    rwa [show lg+(p - t)=52 by omega] at this
  have hR:=read_rung (t:=t) (kept:=mag * 2 ^ (p - t)) (by omega) hk2 (by omega)
  rw [Nat.min_eq_left (by omega)]
  refine ⟨_,hR,?_⟩
  rw [Nat.mul_assoc,<-Nat.pow_add,show p - t+t=p by omega]
  exact near_refl _
 ·rw [show p - t=0 by omega,Nat.shiftLeft_zero,show t - p=lg - 52 by omega]
  have hlg:52 < lg:=by omega
  obtain ⟨c1,c2,c3,c4⟩:=cut_near (n:=mag) (d:=lg - 52) (by rw [hlog]; omega)
  generalize Toward.even.cut false mag (lg - 52)=kept at *
  have hq1:2 ^ 52<=mag / 2 ^ (lg - 52):=by
   rw [Nat.le_div_iff_mul_le (Nat.two_pow_pos _),<-Nat.pow_add,show 52+(lg - 52)=lg by omega]; exact hl1
  have hq2:mag / 2 ^ (lg - 52) < 2 ^ 53:=by
   rw [Nat.div_lt_iff_lt_mul (Nat.two_pow_pos _),<-Nat.pow_add,show 53+(lg - 52)=lg+1 by omega]; exact hl2
  have hR:=read_rung (t:=t) (kept:=kept) (by omega) (.inr (by omega)) (by omega)
  rw [Nat.min_eq_left (by omega)]
  refine ⟨_,hR,?_⟩
  rw [show t=(lg - 52)+p by omega,Nat.pow_add,<-Nat.mul_assoc]
  have hg:2 ^ 52 * 2 ^ (lg - 52)<=mag:=by rw [<-Nat.pow_add,show 52+(lg - 52)=lg by omega]; exact hl1
  generalize kept * 2 ^ (lg - 52)=K at *
  generalize 2 ^ (lg - 52)=g at *
  obtain ⟨d1,d2⟩:=lin1 c1 c2 hg
  constructor
  ·have:=Nat.mul_le_mul_right (2 ^ p) d1
   rw [Nat.add_mul] at this
   rw [Nat.mul_right_comm K,Nat.mul_right_comm mag]; exact this
  ·have:=Nat.mul_le_mul_right (2 ^ p) d2
   rw [Nat.add_mul] at this
   rw [Nat.mul_right_comm K,Nat.mul_right_comm mag]; exact this
theorem rd_of_int {n:Nat} (h:n < 2 ^ 900):∃ R,Rd (floatOfInt .f64 n) R/\Near R (n * UU):=by
 have h1:n * 2 ^ 1074 < 2 ^ 2000:=pmul_lt (a:=900) (b:=1074) (c:=2000) h (by omega)
 obtain ⟨R,h2,h3⟩:=nearest_ok (mag:=n) (p:=1074) h1
 refine ⟨R,?_,by rw [uu_def]; exact h3⟩
 have:floatOfInt .f64 n=double.nearest false n (((1074:Nat):Int) - 1074):=by
  have hd:decide ((n:Int) < 0)=false:=by simp
  simp [floatOfInt,FloatKind.nearest,FloatKind.encode,FloatKind.format,Format.write,hd]
 rw [this]; exact h2
theorem rd_add {x y R S:Nat} (hx:Rd x R) (hy:Rd y S) (h:R+S < 2 ^ 2000):∃ r T,double.add x y=some r/\Rd r T/\Near T (R+S):=by
 obtain ⟨m,i,h1,_,_,rfl⟩:=hx
 obtain ⟨n,j,h2,_,_,rfl⟩:=hy
 have hsum:double.add x y=some (double.nearest false (m * 2 ^ (i - min i j)+n * 2 ^ (j - min i j)) (((min i j:Nat):Int) - 1074)):=by
  unfold Format.add
  rw [h1,h2]
  have hb:min ((i:Int) - 1074) ((j:Int) - 1074)=((min i j:Nat):Int) - 1074:=by
   rcases Nat.le_total i j with h|h
   ·rw [Nat.min_eq_left h,Int.min_eq_left (by omega)]
   ·rw [Nat.min_eq_right h,Int.min_eq_right (by omega)]
  simp only [Datum.sum,hb,signed,Bool.false_eq_true,if_false,Nat.shiftLeft_eq,Bool.and_false,Option.map_some,Format.write]
  rw [show ((i:Int) - 1074 - (((min i j:Nat):Int) - 1074)).toNat=i - min i j by omega,show ((j:Int) - 1074 - (((min i j:Nat):Int) - 1074)).toNat=j - min i j by omega]
  have hn:((m * 2 ^ (i - min i j):Nat):Int)+((n * 2 ^ (j - min i j):Nat):Int)=((m * 2 ^ (i - min i j)+n * 2 ^ (j - min i j):Nat):Int):=by rw [Int.natCast_add]
  rw [hn]
  have hd:decide (((m * 2 ^ (i - min i j)+n * 2 ^ (j - min i j):Nat):Int) < 0)=false:=decide_eq_false (Int.not_lt.2 (Int.natCast_nonneg _))
  have hs:(if ((m * 2 ^ (i - min i j)+n * 2 ^ (j - min i j):Nat):Int)=0 then false else decide (((m * 2 ^ (i - min i j)+n * 2 ^ (j - min i j):Nat):Int) < 0))=false:=by
   split
   ·rfl
   ·exact hd
  rw [hs,Int.natAbs_natCast]
 have he:(m * 2 ^ (i - min i j)+n * 2 ^ (j - min i j)) * 2 ^ (min i j)=m * 2 ^ i+n * 2 ^ j:=by
  rw [Nat.add_mul,Nat.mul_assoc,Nat.mul_assoc,<-Nat.pow_add,<-Nat.pow_add,show i - min i j+min i j=i by omega,show j - min i j+min i j=j by omega]
 obtain ⟨T,h3,h4⟩:=nearest_ok (mag:=m * 2 ^ (i - min i j)+n * 2 ^ (j - min i j)) (p:=min i j) (by rw [he]; exact h)
 rw [he] at h4
 exact ⟨_,T,hsum,h3,h4⟩
theorem rd_zero_nearest (z:Int):Rd (double.nearest false 0 z) 0:=by
 have:double.nearest false 0 z=0 * 2 ^ 52+0:=by simp [Format.nearest,Format.word]
 rw [this]
 have:=read_rung (t:=0) (kept:=0) (by decide) (.inl rfl) (by decide)
 simpa using this
theorem big_k {m k:Nat} (h:m < 2 ^ 53) (h2:2 ^ 1000<=m * 2 ^ k):948<=k:=by
 have:2 ^ 1000 < 2 ^ (53+k):=by
  rw [Nat.pow_add]
  exact Nat.lt_of_le_of_lt h2 (Nat.mul_lt_mul_of_pos_right h (Nat.two_pow_pos _))
 have:=pow_le_pow2 this
 omega
theorem rd_mul {x y R S L:Nat} (hL:L=2 ^ 2000) (hx:Rd x R) (hy:Rd y S) (h1:R=0\/2 ^ 1000<=R) (h2:2 ^ 1000<=S) (h:R * S < L * UU):∃ r T N,double.mul x y=some r/\Rd r T/\Near T N/\N * UU=R * S:=by
 obtain ⟨m,i,e1,m1,_,rfl⟩:=hx
 obtain ⟨n,j,e2,m2,_,rfl⟩:=hy
 have hp:double.mul x y=some (double.nearest false (m * n) ((i:Int) - 1074+((j:Int) - 1074))):=by
  unfold Format.mul
  rw [e1,e2]
  simp [Datum.product,Format.write]
 rcases h1 with h1|h1
 ·have hm:m=0:=by
   rcases Nat.eq_zero_or_pos m with h|h
   ·exact h
   ·have:=Nat.mul_pos h (Nat.two_pow_pos i); omega
  subst hm
  refine ⟨_,0,0,hp,?_,near_refl 0,by simp⟩
  rw [Nat.zero_mul]; exact rd_zero_nearest _
 ·have k1:=big_k m1 h1
  have k2:=big_k m2 h2
  have hpl:(i:Int) - 1074+((j:Int) - 1074)=((i+j - 1074:Nat):Int) - 1074:=by omega
  have hN:m * n * 2 ^ (i+j - 1074) * UU=m * 2 ^ i * (n * 2 ^ j):=by
   rw [uu_def]
   rw [Nat.mul_assoc (m * n),pow_join (show i+j - 1074+1074=i+j by omega)]
   simp only [Nat.mul_assoc,Nat.mul_left_comm,Nat.mul_comm]
  have hlt:m * n * 2 ^ (i+j - 1074) < L:=by
   rw [<-hN] at h
   exact lt_cancel h
  rw [hL] at hlt
  obtain ⟨T,h3,h4⟩:=nearest_ok hlt
  rw [hpl] at hp
  exact ⟨_,T,_,hp,h3,h4,hN⟩
theorem rd_div {x y R S:Nat} (hx:Rd x R) (hy:Rd y S) (h1:R=0\/2 ^ 1000<=R) (h2:2 ^ 1000<=S) (hR:R < UU * 2 ^ 100) (hS:S < UU * 2 ^ 100):∃ r T N,double.div x y=some r/\Rd r T/\Near T N/\N * S * 2 ^ 53<=R * UU * 2 ^ 53+R * UU/\R * UU * 2 ^ 53<=N * S * 2 ^ 53+R * UU:=by
 obtain ⟨m,i,e1,m1,_,rfl⟩:=hx
 obtain ⟨n,j,e2,m2,_,rfl⟩:=hy
 have hn0:n ≠ 0:=by
  rintro rfl
  rw [Nat.zero_mul] at h2
  exact not_le_zero_pow h2
 have hp:double.div x y=some (double.nearest false (2 * (m <<< (54+n.log2 - m.log2) / n)+(m <<< (54+n.log2 - m.log2) % n != 0).toNat) ((i:Int) - 1074 - ((j:Int) - 1074) - ((54+n.log2 - m.log2:Nat):Int) - 1)):=by
  unfold Format.div
  rw [e1,e2]
  simp [Datum.quotient,Format.write,hn0]
  rfl
 rcases h1 with h1|h1
 ·have hm:m=0:=by
   rcases Nat.eq_zero_or_pos m with h|h
   ·exact h
   ·have:=Nat.mul_pos h (Nat.two_pow_pos i); omega
  subst hm
  refine ⟨_,0,0,hp,?_,near_refl 0,by simp,by simp⟩
  have:(2 * ((0:Nat) <<< (54+n.log2 - (0:Nat).log2) / n)+((0:Nat) <<< (54+n.log2 - (0:Nat).log2) % n != 0).toNat)=0:=by simp
  rw [this]; exact rd_zero_nearest _
 ·have hm0:m ≠ 0:=by
   rintro rfl
   rw [Nat.zero_mul] at h1
   exact not_le_zero_pow h1
  have k1:=big_k m1 h1
  have k2:=big_k m2 h2
  have k3:i < 1174:=by
   apply pow_le_pow2
   have:2 ^ i<=m * 2 ^ i:=Nat.le_mul_of_pos_left _ (by omega)
   have e:UU * 2 ^ 100=2 ^ 1174:=by rw [uu_def]; exact (pow_split (a:=1074) (b:=100) (c:=1174) rfl).symm
   omega
  have k4:j < 1174:=by
   apply pow_le_pow2
   have:2 ^ j<=n * 2 ^ j:=Nat.le_mul_of_pos_left _ (by omega)
   have e:UU * 2 ^ 100=2 ^ 1174:=by rw [uu_def]; exact (pow_split (a:=1074) (b:=100) (c:=1174) rfl).symm
   omega
  have lm1:=Nat.log2_self_le hm0
  have ln1:=Nat.log2_self_le hn0
  have lm2:m < 2 ^ (m.log2+1):=Nat.lt_log2_self
  have ln2:n < 2 ^ (n.log2+1):=Nat.lt_log2_self
  have b1:m.log2 < 53:=pow_le_pow2 (Nat.lt_of_le_of_lt lm1 m1)
  have b2:n.log2 < 53:=pow_le_pow2 (Nat.lt_of_le_of_lt ln1 m2)
  generalize m.log2=lm at *
  generalize n.log2=ln at *
  generalize hmo:54+ln - lm=mo at *
  have hD:m <<< mo=m * 2 ^ mo:=Nat.shiftLeft_eq ..
  rw [hD] at hp
  have hdm:=Nat.div_add_mod (m * 2 ^ mo) n
  have hml:=Nat.mod_lt (m * 2 ^ mo) (Nat.pos_of_ne_zero hn0)
  have hbig:2 ^ 53 * n<=m * 2 ^ mo:=by
   have e1:2 ^ lm * 2 ^ mo<=m * 2 ^ mo:=Nat.mul_le_mul_right _ lm1
   rw [<-Nat.pow_add,show lm+mo=53+(ln+1) by omega,Nat.pow_add] at e1
   exact Nat.le_trans (Nat.mul_le_mul_left _ (Nat.le_of_lt ln2)) e1
  have hsm:m * 2 ^ mo < 2 ^ 160:=by
   have e1:m * 2 ^ mo < 2 ^ (lm+1) * 2 ^ mo:=Nat.mul_lt_mul_of_pos_right lm2 (Nat.two_pow_pos _)
   rw [<-Nat.pow_add] at e1
   exact Nat.lt_of_lt_of_le e1 (Nat.pow_le_pow_right (by decide) (by omega))
  have hpl:(i:Int) - 1074 - ((j:Int) - 1074) - (mo:Int) - 1=((i+1073 - j - mo:Nat):Int) - 1074:=by omega
  generalize hp':i+1073 - j - mo=p at *
  rw [hpl] at hp
  generalize hmag:2 * (m * 2 ^ mo / n)+(m * 2 ^ mo % n != 0).toNat=mag at *
  have hmg:mag * n<=2 * (m * 2 ^ mo)+n/\2 * (m * 2 ^ mo)<=mag * n+n/\mag<=2 * (m * 2 ^ mo)+1:=by
   have hle:m * 2 ^ mo / n<=m * 2 ^ mo:=Nat.div_le_self ..
   generalize m * 2 ^ mo / n=q at *
   generalize m * 2 ^ mo % n=rr at *
   generalize m * 2 ^ mo=D at *
   rw [Nat.mul_comm n q] at hdm
   rw [<-hmag,Nat.add_mul,Nat.mul_assoc]
   by_cases h:rr=0
   ·subst h
    simp only [bne_self_eq_false,Bool.toNat_false,Nat.zero_mul]
    omega
   ·have:(rr != 0)=true:=by simp [h]
    rw [this,Bool.toNat_true,Nat.one_mul]
    omega
  have hov:mag * 2 ^ p < 2 ^ 2000:=by
   have e1:mag < 2 ^ 162:=by omega
   exact pmul_lt (a:=162) (b:=p) (c:=2000) e1 (by omega)
  obtain ⟨T,h3,h4⟩:=nearest_ok hov
  refine ⟨_,T,_,hp,h3,h4,?_⟩
  have hE:m * 2 ^ i * UU=2 * (m * 2 ^ mo) * 2 ^ (p+j):=by
   rw [uu_def]
   have:=pjoin (i:=i) (u:=1074) (mo:=mo) (q:=p+j) (by omega)
   rw [Nat.mul_assoc,this]
   simp only [Nat.mul_assoc,Nat.mul_left_comm,Nat.mul_comm]
  have hF:mag * 2 ^ p * (n * 2 ^ j)=mag * n * 2 ^ (p+j):=by
   rw [Nat.pow_add]
   simp only [Nat.mul_assoc,Nat.mul_left_comm,Nat.mul_comm]
  rw [hE,hF]
  obtain ⟨g1,g2,_⟩:=hmg
  generalize mag * n=M at *
  generalize m * 2 ^ mo=D at *
  generalize 2 ^ (p+j)=G at *
  obtain ⟨d1,d2⟩:=lin2 g1 g2 hbig
  constructor
  ·have:=Nat.mul_le_mul_right G d1
   rw [Nat.add_mul] at this
   rw [Nat.mul_right_comm M,Nat.mul_right_comm (2 * D)]; exact this
  ·have:=Nat.mul_le_mul_right G d2
   rw [Nat.add_mul] at this
   rw [Nat.mul_right_comm M,Nat.mul_right_comm (2 * D)]; exact this
theorem rd_toInt {x R:Nat} (hx:Rd x R):(double.read x).toInt .zero=some ((R / UU:Nat):Int):=by
 obtain ⟨m,k,h1,h2,h3,rfl⟩:=hx
 rw [h1]
 simp only [Datum.toInt,Datum.integral,signed,Bool.false_eq_true,if_false,Nat.shiftLeft_zero,Toward.cut]
 congr 2
 simp only [Bool.toNat_false,Nat.add_zero,Nat.shiftLeft_eq,Nat.one_mul]
 rw [uu_def]
 rcases Nat.lt_or_ge k 1074 with hk|hk
 ·rw [show ((k:Int) - 1074).toNat=0 by omega,show (-((k:Int) - 1074)).toNat=1074 - k by omega,Nat.pow_zero,Nat.mul_one]
  have he:m * 2 ^ k / 2 ^ 1074=m / 2 ^ (1074 - k):=by
   rw [show (1074:Nat)=k+(1074 - k) by omega,Nat.pow_add,<-Nat.div_div_eq_div_mul,Nat.mul_div_cancel _ (Nat.two_pow_pos _),show k+(1074 - k) - k=1074 - k by omega]
  rw [he]
  rcases Nat.le_total (1074 - k) (m.log2+2) with h|h
  ·rw [Nat.min_eq_left h]
  ·rw [Nat.min_eq_right h]
   have e1:m < 2 ^ (m.log2+2):=Nat.lt_of_lt_of_le Nat.lt_log2_self (Nat.pow_le_pow_right (by decide) (by omega))
   rw [Nat.div_eq_of_lt e1,Nat.div_eq_of_lt (Nat.lt_of_lt_of_le e1 (Nat.pow_le_pow_right (by decide) h))]
 ·rw [show (-((k:Int) - 1074)).toNat=0 by omega,show ((k:Int) - 1074).toNat=k - 1074 by omega,Nat.zero_min,Nat.pow_zero,Nat.div_one]
  rw [show k=(k - 1074)+1074 by omega,Nat.pow_add,<-Nat.mul_assoc,Nat.mul_div_cancel _ (Nat.two_pow_pos 1074),Nat.add_sub_cancel]
theorem pos_uu:0 < UU:=by rw [uu_def]; exact Nat.two_pow_pos 1074
theorem uu_eq:UU=GG * 2 ^ 74:=by rw [uu_def,gg_def]; exact pow_split (a:=1000) (b:=74) (c:=1074) rfl
theorem ll_eq:LL=UU * 2 ^ 120 * 2 ^ 806:=by
 rw [ll_def,uu_def,<-pow_split (a:=1074) (b:=120) (c:=1194) rfl]
 exact pow_split (a:=1194) (b:=806) (c:=2000) rfl
theorem rd_add' {x y R S:Nat} (hx:Rd x R) (hy:Rd y S) (h:R+S < LL):∃ r T,double.add x y=some r/\Rd r T/\Near T (R+S):=rd_add hx hy (by rw [ll_def] at h; exact h)
theorem rd_mul' {x y R S:Nat} (hx:Rd x R) (hy:Rd y S) (h1:R=0\/GG<=R) (h2:GG<=S) (h:R * S < LL * UU):∃ r T N,double.mul x y=some r/\Rd r T/\Near T N/\N * UU=R * S
 := rd_mul ll_def hx hy (by rw [gg_def] at h1; exact h1) (by rw [gg_def] at h2; exact h2) h
theorem rd_div' {x y R S:Nat} (hx:Rd x R) (hy:Rd y S) (h1:R=0\/GG<=R) (h2:GG<=S) (hR:R < UU * 2 ^ 100) (hS:S < UU * 2 ^ 100):∃ r T N,double.div x y=some r/\Rd r T/\Near T N/\N * S * 2 ^ 53<=R * UU * 2 ^ 53+R * UU/\R * UU * 2 ^ 53<=N * S * 2 ^ 53+R * UU:=rd_div hx hy (by rw [gg_def] at h1; exact h1) (by rw [gg_def] at h2; exact h2) hR hS
end Go.Proofs.YtcbionahcldlnaaGreat.DW

namespace Go.Proofs.YtcbionahcldlnaaGreat.DW
open Ieee
def Ap (c x V:Nat):Prop:=∃ R,Rd x R/\R * 2 ^ 60<=V * 2 ^ 60+c * V/\V * 2 ^ 60<=R * 2 ^ 60+c * V
theorem near_lin {T N V c:Nat} (h1:T * 2 ^ 53<=N * 2 ^ 53+N) (h2:N * 2 ^ 53<=T * 2 ^ 53+N) (h3:N * 2 ^ 60<=V * 2 ^ 60+c * V) (h4:V * 2 ^ 60<=N * 2 ^ 60+c * V) (hc:c<=2 ^ 50):T * 2 ^ 60<=V * 2 ^ 60+(c+129) * V/\V * 2 ^ 60<=T * 2 ^ 60+(c+129) * V:=by
 have hcv:c * V<=2 ^ 50 * V:=Nat.mul_le_mul_right _ hc
 rw [Nat.add_mul]
 generalize c * V=z at *
 omega
theorem ap_conv {n:Nat} (h:n < 2 ^ 900):Ap 128 (floatOfInt .f64 n) (n * UU):=by
 obtain ⟨R,h1,h2,h3⟩:=rd_of_int h
 refine ⟨R,h1,?_⟩
 clear h1 h
 generalize n * UU=V at *
 omega
theorem pow_tri (x:Nat) {a b c U:Nat} (hu:U=2 ^ c) (e:c=a+b):x * U=x * 2 ^ a * 2 ^ b:=by rw [hu,e,Nat.pow_add,Nat.mul_assoc]
theorem rd_base:Rd 4741671816366391296 (1000000000 * UU):=by
 refine ⟨1000000000 * 2 ^ 23,1051,by decide +kernel,by decide,by decide,?_⟩
 have e:=pow_tri 1000000000 (a:=23) (b:=1051) (c:=1074) uu_def rfl
 exact e
theorem lt_2000 {V:Nat} (h:V < UU * 2 ^ 120):4 * V < LL:=by
 rw [ll_eq]
 have h2:UU * 2 ^ 120 * 2 ^ 2<=UU * 2 ^ 120 * 2 ^ 806:=Nat.mul_le_mul_left _ (ple (a:=2) (b:=806) (by omega))
 refine Nat.lt_of_lt_of_le ?_ h2
 clear h2
 omega
theorem la {R V z:Nat} (h2:R * 2 ^ 60<=V * 2 ^ 60+z) (h3:V * 2 ^ 60<=R * 2 ^ 60+z) (hz:z<=2 ^ 50 * V):R<=2 * V/\V<=2 * R:=by omega
theorem lb {u g V R:Nat} (e1:u<=V) (e2:u=g * 2 ^ 74) (hb:V<=2 * R):g<=R:=by omega
theorem lc {u g:Nat} (e2:u=g * 2 ^ 74):g<=1000000000 * u:=by omega
theorem ld {R V u:Nat} (hb:R<=2 * V) (e1:V<=2 ^ 80 * u) (h:0 < u):R * 1000000000 < u * 2 ^ 120:=by omega
theorem le4 {a b:Nat} (h:4 * a < b):a < b:=by omega
theorem lf {R V z:Nat} (h2:R * 2 ^ 60<=V * 2 ^ 60+z):R * 1000000000 * 2 ^ 60<=V * 1000000000 * 2 ^ 60+z * 1000000000:=by
 have:=Nat.mul_le_mul_right 1000000000 h2
 rw [Nat.add_mul] at this
 rw [Nat.mul_right_comm R,Nat.mul_right_comm V]
 exact this
theorem lg {R S V W u:Nat} (h2:R<=2 * V) (h3:S<=2 * W) (e1:V<=2 ^ 110 * u) (e2:W<=2 ^ 110 * u) (h:0 < u):R+S < u * 2 ^ 120:=by omega
theorem lh {R S V W x y z:Nat} (h1:R * 2 ^ 60<=V * 2 ^ 60+x) (h2:S * 2 ^ 60<=W * 2 ^ 60+y) (h3:y<=z):(R+S) * 2 ^ 60<=(V+W) * 2 ^ 60+(x+z):=by
 have:=Nat.add_le_add h1 (Nat.le_trans h2 (Nat.add_le_add_left h3 _))
 rw [Nat.add_add_add_comm] at this
 rw [Nat.add_mul,Nat.add_mul]
 exact this
theorem li {R V z u:Nat} (h2:R<=2 * V) (e1:V<=2 ^ 95 * u) (h:0 < u):R < u * 2 ^ 100:=by omega
theorem ap_nz {v R:Nat} (hb:R<=2 * (v * UU)/\v * UU<=2 * R):R=0\/GG<=R:=by
 by_cases hv0:v=0
 ·subst hv0
  rw [Nat.zero_mul] at hb
  exact .inl (Nat.le_zero.1 hb.1)
 ·exact .inr (lb (Nat.le_mul_of_pos_left _ (Nat.pos_of_ne_zero hv0)) uu_eq hb.2)
theorem ap_mul {c x v:Nat} (hc:c<=2 ^ 50) (h:Ap c x (v * UU)) (hv:v < 2 ^ 80):∃ r,floatBits .mul .f64 x 4741671816366391296=some r/\Ap (c+129) r (v * 1000000000 * UU):=by
 obtain ⟨R,h1,h2,h3⟩:=h
 have hb:=la h2 h3 (Nat.mul_le_mul_right _ hc)
 have hlt:R * (1000000000 * UU) < LL * UU:=by
  rw [<-Nat.mul_assoc]
  exact Nat.mul_lt_mul_of_pos_right (le4 (lt_2000 (ld hb.1 (Nat.mul_le_mul_right _ (Nat.le_of_lt hv)) pos_uu))) pos_uu
 obtain ⟨r,T,N,e1,e2,⟨e3,e4⟩,e5⟩:=rd_mul' h1 rd_base (ap_nz hb) (lc uu_eq) hlt
 refine ⟨r,e1,T,e2,?_⟩
 have hN:N=R * 1000000000:=by
  rw [<-Nat.mul_assoc] at e5
  exact Nat.eq_of_mul_eq_mul_right pos_uu e5
 rw [hN] at e3 e4
 have hV:v * 1000000000 * UU=v * UU * 1000000000:=Nat.mul_right_comm ..
 rw [hV]
 have d1:=lf h2
 have d2:=lf h3
 rw [Nat.mul_assoc c] at d1 d2
 exact near_lin e3 e4 d1 d2 hc
theorem ap_add {c x v d y w:Nat} (hc:c<=2 ^ 50) (hdc:d<=c) (h:Ap c x (v * UU)) (h':Ap d y (w * UU)) (hv:v < 2 ^ 110) (hw:w < 2 ^ 110):∃ r,floatBits .add .f64 x y=some r/\Ap (c+129) r ((v+w) * UU):=by
 obtain ⟨R,h1,h2,h3⟩:=h
 obtain ⟨S,g1,g2,g3⟩:=h'
 have hb:=la h2 h3 (Nat.mul_le_mul_right _ hc)
 have hb':=la g2 g3 (Nat.mul_le_mul_right _ (Nat.le_trans hdc hc))
 have hlt:R+S < LL:=le4 (lt_2000 (lg hb.1 hb'.1 (Nat.mul_le_mul_right _ (Nat.le_of_lt hv)) (Nat.mul_le_mul_right _ (Nat.le_of_lt hw)) pos_uu))
 obtain ⟨r,T,e1,e2,e3,e4⟩:=rd_add' h1 g1 hlt
 refine ⟨r,e1,T,e2,?_⟩
 have hdw:d * (w * UU)<=c * (w * UU):=Nat.mul_le_mul_right _ hdc
 have d1:=lh h2 g2 hdw
 have d2:=lh h3 g3 hdw
 rw [<-Nat.mul_add] at d1 d2
 rw [Nat.add_mul v w]
 exact near_lin e3 e4 d1 d2 hc
theorem chain_up {T N S R V W U p q s t u:Nat} (h1:T * p<=N * q) (h2:N * S * p<=R * U * q) (h3:R * s<=V * t) (h4:W * u<=S * s):T * W * (p * p * s * u)<=V * U * (q * q * t * s):=by
 have a1:=Nat.mul_le_mul h1 h4
 have a2:=Nat.mul_le_mul_right (q * s) h2
 have a3:=Nat.mul_le_mul_right (U * q * q * s) h3
 have b1:T * p * (W * u) * (p * s)<=N * q * (S * s) * (p * s):=Nat.mul_le_mul_right _ a1
 have b2:N * S * p * (q * s) * s<=R * U * q * (q * s) * s:=Nat.mul_le_mul_right _ a2
 have e1:T * W * (p * p * s * u)=T * p * (W * u) * (p * s):=by ac_rfl
 have e2:N * q * (S * s) * (p * s)=N * S * p * (q * s) * s:=by ac_rfl
 have e3:R * U * q * (q * s) * s=R * s * (U * q * q * s):=by ac_rfl
 have e4:V * t * (U * q * q * s)=V * U * (q * q * t * s):=by ac_rfl
 rw [e1,<-e4]
 rw [e2] at b1
 rw [e3] at b2
 exact Nat.le_trans b1 (Nat.le_trans b2 a3)
theorem chain_dn {T N S R V W U p q s t u:Nat} (h1:N * q<=T * p) (h2:R * U * q<=N * S * p) (h3:V * t<=R * s) (h4:S * s<=W * u):V * U * (t * q * q)<=T * W * (p * p * u):=by
 have b1:V * t * (U * q)<=R * s * (U * q):=Nat.mul_le_mul_right _ h3
 have b2:R * U * q * (s * q)<=N * S * p * (s * q):=Nat.mul_le_mul_right _ h2
 have b3:N * q * (S * s)<=T * p * (W * u):=Nat.mul_le_mul h1 h4
 have g1:V * U * (t * q * q)=V * t * (U * q) * q:=by ac_rfl
 have g2:R * s * (U * q) * q=R * U * q * (s * q):=by ac_rfl
 have g3:N * S * p * (s * q)=N * q * (S * s) * p:=by ac_rfl
 have g4:T * W * (p * p * u)=T * p * (W * u) * p:=by ac_rfl
 rw [g1,g4]
 refine Nat.le_trans (Nat.mul_le_mul_right _ b1) ?_
 rw [g2]
 refine Nat.le_trans b2 ?_
 rw [g3]
 exact Nat.mul_le_mul_right _ b3
theorem cancel_up {X Y w U k l:Nat} (hU:0 < U) (h:X * (w * U) * k<=Y * U * U * l):X * w * k<=Y * U * l:=by
 have b1:X * w * k * U=X * (w * U) * k:=by ac_rfl
 have b2:Y * U * l * U=Y * U * U * l:=by ac_rfl
 exact Nat.le_of_mul_le_mul_right (by rw [b1,b2]; exact h) hU
theorem cancel_dn {X Y w U k l:Nat} (hU:0 < U) (h:Y * U * U * k<=X * (w * U) * l):Y * U * k<=X * w * l:=by
 have b1:X * w * l * U=X * (w * U) * l:=by ac_rfl
 have b2:Y * U * k * U=Y * U * U * k:=by ac_rfl
 exact Nat.le_of_mul_le_mul_right (by rw [b1,b2]; exact h) hU
theorem chain_end {X Y k l:Nat} (h:X * k<=Y * l) (hk:0 < k) (hl:l * 2 ^ 40<=k * (2 ^ 40+1)):X * 2 ^ 40<=Y * (2 ^ 40+1):=by
 have h1:X * k * 2 ^ 40<=Y * l * 2 ^ 40:=Nat.mul_le_mul_right _ h
 have h2:Y * (l * 2 ^ 40)<=Y * (k * (2 ^ 40+1)):=Nat.mul_le_mul_left _ hl
 rw [<-Nat.mul_assoc] at h2
 have h3:X * 2 ^ 40 * k<=Y * (2 ^ 40+1) * k:=by
  rw [Nat.mul_right_comm X,Nat.mul_assoc Y,Nat.mul_comm (2 ^ 40+1) k]
  exact Nat.le_trans h1 h2
 exact Nat.le_of_mul_le_mul_right h3 hk
theorem lj {T N:Nat} (h:T * 2 ^ 53<=N * 2 ^ 53+N):T * 2 ^ 53<=N * (2 ^ 53+1):=by omega
theorem lk {T N:Nat} (h:N * 2 ^ 53<=T * 2 ^ 53+N):N * (2 ^ 53 - 1)<=T * 2 ^ 53:=by
 rw [Nat.mul_sub,Nat.mul_one]; exact Nat.sub_le_iff_le_add.2 h
theorem ll1 {R V:Nat} (h:R * 2 ^ 60<=V * 2 ^ 60+1024 * V):R * 2 ^ 60<=V * (2 ^ 60+1024):=by
 rw [Nat.mul_add,Nat.mul_comm V 1024]; exact h
theorem ll2 {R V:Nat} (h:V * 2 ^ 60<=R * 2 ^ 60+1024 * V):V * (2 ^ 60 - 1024)<=R * 2 ^ 60:=by
 rw [Nat.mul_sub,Nat.mul_comm V 1024]; exact Nat.sub_le_iff_le_add.2 h
theorem ap_div {x v y w:Nat} (h:Ap 1024 x (v * UU)) (h':Ap 1024 y (w * UU)) (hv:v < 2 ^ 95) (hw:w < 2 ^ 95) (hw0:0 < w):∃ r T,floatBits .quo .f64 x y=some r/\Rd r T/\T * w * 2 ^ 40<=v * UU * (2 ^ 40+1)/\v * UU * 2 ^ 40<=T * w * (2 ^ 40+1):=by
 obtain ⟨R,h1,h2,h3⟩:=h
 obtain ⟨S,g1,g2,g3⟩:=h'
 have hb:=la h2 h3 (Nat.mul_le_mul_right _ (by decide))
 have hb':=la g2 g3 (Nat.mul_le_mul_right _ (by decide))
 have hS:GG<=S:=lb (Nat.le_mul_of_pos_left _ hw0) uu_eq hb'.2
 have hR2:R < UU * 2 ^ 100:=li (z:=0) hb.1 (Nat.mul_le_mul_right _ (Nat.le_of_lt hv)) pos_uu
 have hS2:S < UU * 2 ^ 100:=li (z:=0) hb'.1 (Nat.mul_le_mul_right _ (Nat.le_of_lt hw)) pos_uu
 obtain ⟨r,T,N,e1,e2,⟨e3,e4⟩,e5,e6⟩:=rd_div' h1 g1 (ap_nz hb) hS hR2 hS2
 refine ⟨r,T,e1,e2,?_⟩
 constructor
 ·exact cancel_up pos_uu (chain_end (chain_up (lj e3) (lj e5) (ll1 h2) (ll2 g3)) (by decide) (by decide))
 ·exact cancel_dn pos_uu (chain_end (chain_dn (lk e4) (lk e6) (ll2 h3) (ll1 g2)) (by decide) (by decide))
theorem g_up {g T u X Y q:Nat} (hu:0 < u) (hg:g * u<=T) (h:T * Y * 2 ^ 40<=X * u * (2 ^ 40+1)) (hX:X<=2 ^ 31 * Y) (hq:X < (q+2) * Y):g < q+3:=by
 have h1:g * Y * 2 ^ 40 * u<=X * (2 ^ 40+1) * u:=by
  have e1:g * Y * 2 ^ 40 * u=g * u * (Y * 2 ^ 40):=by ac_rfl
  have e2:X * (2 ^ 40+1) * u=X * u * (2 ^ 40+1):=by ac_rfl
  rw [e1,e2]
  refine Nat.le_trans (Nat.mul_le_mul_right _ hg) ?_
  rw [<-Nat.mul_assoc]; exact h
 have h2:=Nat.le_of_mul_le_mul_right h1 hu
 rw [Nat.mul_add,Nat.mul_one] at h2
 have h3:g * Y<=X+Y:=by omega
 have h4:g * Y < (q+3) * Y:=by rw [show q+3=(q+2)+1 by omega,Nat.add_mul (q+2),Nat.one_mul]; omega
 exact Nat.lt_of_mul_lt_mul_right h4
theorem g_dn {g T u X Y q:Nat} (hu:0 < u) (hY:0 < Y) (hg:T<=(g+1) * u) (h:X * u * 2 ^ 40<=T * Y * (2 ^ 40+1)) (hq:q * Y<=X) (hq2:q < 2 ^ 31):q<=g+1:=by
 have h1:X * 2 ^ 40 * u<=(g+1) * Y * (2 ^ 40+1) * u:=by
  have e1:X * 2 ^ 40 * u=X * u * 2 ^ 40:=by ac_rfl
  have e2:(g+1) * Y * (2 ^ 40+1) * u=(g+1) * u * (Y * (2 ^ 40+1)):=by ac_rfl
  rw [e1,e2]
  refine Nat.le_trans h ?_
  rw [Nat.mul_assoc]
  exact Nat.mul_le_mul_right _ hg
 have h2:=Nat.le_of_mul_le_mul_right h1 hu
 have h3:q * 2 ^ 40 * Y<=(g+1) * (2 ^ 40+1) * Y:=by
  have e1:q * 2 ^ 40 * Y=q * Y * 2 ^ 40:=by ac_rfl
  have e2:(g+1) * (2 ^ 40+1) * Y=(g+1) * Y * (2 ^ 40+1):=by ac_rfl
  rw [e1,e2]
  exact Nat.le_trans (Nat.mul_le_mul_right _ hq) h2
 have h4:=Nat.le_of_mul_le_mul_right h3 hY
 rw [Nat.mul_add,Nat.mul_one] at h4
 omega
theorem top3 {a L:Nat} (h:a < pw (L+3)):a / pw L=(dg a (L+2) * 1000000000+dg a (L+1)) * 1000000000+dg a L:=by
 have h1:=div_pw_succ a L
 have h2:a / pw (L+1)=1000000000 * (a / pw (L+2))+dg a (L+1):=div_pw_succ a (L+1)
 have h3:dg a (L+2)=a / pw (L+2):=dg_top h
 omega
theorem top2 {b L:Nat} (h:b < pw (L+2)):b / pw L=dg b (L+1) * 1000000000+dg b L:=by
 have h1:=div_pw_succ b L
 have h3:dg b (L+1)=b / pw (L+1):=dg_top h
 omega
theorem quo_bounds {a b P X Y:Nat} (hP:0 < P) (hX:a / P=X) (hY:b / P=Y) (hb:1000000000<=Y) (hab:a < b * 1000000000):X<=2 ^ 31 * Y/\X < (a / b+2) * Y/\a / b * Y<=X/\a / b < 1000000000:=by
 have ha1:X * P<=a:=hX ▸ Nat.div_mul_le_self a P
 have ha2:a < (X+1) * P:=by rw [<-hX]; exact Nat.lt_mul_of_div_lt (Nat.lt_succ_self _) hP
 have hb1:Y * P<=b:=hY ▸ Nat.div_mul_le_self b P
 have hb2:b < (Y+1) * P:=by rw [<-hY]; exact Nat.lt_mul_of_div_lt (Nat.lt_succ_self _) hP
 have hb0:0 < b:=by
  have:0 < Y * P:=Nat.mul_pos (by omega) hP
  omega
 have hq:a / b < 1000000000:=by rw [Nat.div_lt_iff_lt_mul hb0,Nat.mul_comm]; exact hab
 have hq1:a / b * b<=a:=Nat.div_mul_le_self a b
 have hq2:a < (a / b+1) * b:=Nat.lt_mul_of_div_lt (Nat.lt_succ_self _) hb0
 generalize a / b=q at *
 refine ⟨?_,?_,?_,hq⟩
 ·have h1:X * P < (Y+1) * 1000000000 * P:=by
   have e:(Y+1) * 1000000000 * P=(Y+1) * P * 1000000000:=by ac_rfl
   rw [e]
   exact Nat.lt_of_le_of_lt ha1 (Nat.lt_trans hab (Nat.mul_lt_mul_of_pos_right hb2 (by decide)))
  have h2:=Nat.lt_of_mul_lt_mul_right h1
  omega
 ·have h1:X * P < (q+1) * (Y+1) * P:=by
   rw [Nat.mul_assoc]
   exact Nat.lt_of_le_of_lt ha1 (Nat.lt_of_lt_of_le hq2 (Nat.mul_le_mul_left _ (Nat.le_of_lt hb2)))
  have h2:=Nat.lt_of_mul_lt_mul_right h1
  have e1:(q+1) * (Y+1)=(q+1) * Y+(q+1):=by rw [Nat.mul_add,Nat.mul_one]
  have e2:(q+2) * Y=(q+1) * Y+Y:=by rw [show q+2=(q+1)+1 by omega,Nat.add_mul (q+1),Nat.one_mul]
  omega
 ·have h1:q * Y * P < (X+1) * P:=by
   rw [Nat.mul_assoc]
   exact Nat.lt_of_le_of_lt (Nat.le_trans (Nat.mul_le_mul_left _ hb1) hq1) ha2
  have h2:=Nat.lt_of_mul_lt_mul_right h1
  omega
theorem ap_up {c d x V:Nat} (h:Ap c x V) (hcd:c<=d):Ap d x V:=by
 obtain ⟨R,h1,h2,h3⟩:=h
 have:=Nat.mul_le_mul_right V hcd
 exact ⟨R,h1,Nat.le_trans h2 (Nat.add_le_add_left this _),Nat.le_trans h3 (Nat.add_le_add_left this _)⟩
theorem lt900 {n:Nat} (h:n < 1000000000):n < 2 ^ 900:=Nat.lt_of_lt_of_le (Nat.lt_trans h (by decide:1000000000 < 2 ^ 30)) (ple (a:=30) (b:=900) (by omega))
theorem b80 {n:Nat} (h:n < 1000000000000000000):n < 2 ^ 80:=Nat.lt_of_lt_of_le h (by decide)
theorem b110 {n:Nat} (h:n < 1000000000000000000000000000):n < 2 ^ 110:=Nat.lt_of_lt_of_le h (by decide)
theorem b95 {n:Nat} (h:n < 1000000000000000000000000000):n < 2 ^ 95:=Nat.lt_of_lt_of_le h (by decide)
theorem b31 {n:Nat} (h:n < 1000000000):n < 2 ^ 31:=Nat.lt_of_lt_of_le h (by decide)
theorem guess_ok {a b L:Nat} (hb:nl b=L+2) (hab:a < b * 1000000000):∃ m2 m2' m1 s1 tp n1 bt q:Nat,∃ g:Nat,
  floatBits .mul .f64 (floatOfInt .f64 (dg a (L+2):Nat)) 4741671816366391296=some m2/\floatBits .mul .f64 m2 4741671816366391296=some m2' ∧
  floatBits .mul .f64 (floatOfInt .f64 (dg a (L+1):Nat)) 4741671816366391296=some m1/\floatBits .add .f64 m2' m1=some s1/\floatBits .add .f64 s1 (floatOfInt .f64 (dg a L:Nat))=some tp ∧
  floatBits .mul .f64 (floatOfInt .f64 (dg b (L+1):Nat)) 4741671816366391296=some n1/\floatBits .add .f64 n1 (floatOfInt .f64 (dg b L:Nat))=some bt ∧
  floatBits .quo .f64 tp bt=some q/\floatToIntVal .f64 q .i64=some (g:Int)/\g<=a / b+3/\a / b<=g+3/\g<=2000000000:=by
 have hlt:=lt_nl b
 rw [hb] at hlt
 have ha3:a < pw (L+3):=by
  have:b * 1000000000 < pw (L+2) * 1000000000:=Nat.mul_lt_mul_of_pos_right hlt (by decide)
  rw [Nat.mul_comm (pw (L+2)),<-pw_succ] at this
  exact Nat.lt_trans hab this
 have hb1:pw (L+1)<=b:=lt_nl_iff.1 (by omega)
 have d2:=dg_lt a (L+2)
 have d1:=dg_lt a (L+1)
 have d0:=dg_lt a L
 have c1:=dg_lt b (L+1)
 have c0:=dg_lt b L
 have hy1:1<=dg b (L+1):=by
  rw [dg_top hlt]
  exact Nat.div_pos hb1 (pw_pos _)
 have hX:=top3 ha3
 have hY:=top2 hlt
 have hq:=quo_bounds (pw_pos L) hX hY (by omega) hab
 clear hX hY hb1 ha3 hlt hab hb
 revert hq
 generalize dg a (L+2)=x2 at *
 generalize dg a (L+1)=x1 at *
 generalize dg a L=x0 at *
 generalize dg b (L+1)=y1 at *
 generalize dg b L=y0 at *
 obtain ⟨m2,e1,p1⟩:=ap_mul (by decide) (ap_conv (lt900 d2)) (b80 (by omega))
 obtain ⟨m2',e2,p2⟩:=ap_mul (by decide) p1 (b80 (by omega))
 obtain ⟨m1,e3,p3⟩:=ap_mul (by decide) (ap_conv (lt900 d1)) (b80 (by omega))
 obtain ⟨s1,e4,p4⟩:=ap_add (by decide) (by decide) p2 p3 (b110 (by omega)) (b110 (by omega))
 obtain ⟨tp,e5,p5⟩:=ap_add (by decide) (by decide) p4 (ap_conv (lt900 d0)) (b110 (by omega)) (b110 (by omega))
 obtain ⟨n1,e6,p6⟩:=ap_mul (by decide) (ap_conv (lt900 c1)) (b80 (by omega))
 obtain ⟨bt,e7,p7⟩:=ap_add (by decide) (by decide) p6 (ap_conv (lt900 c0)) (b110 (by omega)) (b110 (by omega))
 have hXe:x2 * 1000000000 * 1000000000+x1 * 1000000000+x0=(x2 * 1000000000+x1) * 1000000000+x0:=by rw [Nat.add_mul]
 rw [hXe] at p5
 obtain ⟨q,T,e8,p8,t1,t2⟩:=ap_div (ap_up p5 (by decide)) (ap_up p7 (by decide)) (b95 (by omega)) (b95 (by omega)) (by omega)
 rintro ⟨k1,k2,k3,k4⟩
 have hT1:T / UU * UU<=T:=Nat.div_mul_le_self T UU
 have hT2:T<=(T / UU+1) * UU:=Nat.le_of_lt (Nat.lt_mul_of_div_lt (Nat.lt_succ_self _) pos_uu)
 have g1:=g_up pos_uu hT1 t1 k1 k2
 have g2:=g_dn pos_uu (by omega) hT2 t2 k3 (b31 k4)
 generalize a / b=qq at *
 refine ⟨m2,m2',m1,s1,tp,n1,bt,q,T / UU,e1,e2,e3,e4,e5,e6,e7,e8,?_,by omega,by omega,by omega⟩
 unfold floatToIntVal
 have:=rd_toInt p8
 have hd:FloatKind.f64.decode q=double.read q:=rfl
 rw [hd,this]
 simp only
 rw [if_pos]
 have e1:IntKind.i64.min=-9223372036854775808:=by decide
 have e2:IntKind.i64.max=9223372036854775807:=by decide
 rw [e1,e2]
 generalize T / UU=gg at *
 omega
attribute [go_sem] cmpL_nat List.headD_cons Tryz.underlying275
theorem cmpN_le {a b:Nat}:cmpN a b<=0 ↔ a<=b:=by unfold cmpN; split<;>(try split)<;>omega
theorem cmpN_lt {a b:Nat}:cmpN a b < 0 ↔ a < b:=by unfold cmpN; split<;>(try split)<;>omega
theorem cmpN_ge {a b:Nat}:0<=cmpN a b ↔ b<=a:=by unfold cmpN; split<;>(try split)<;>omega
theorem nl_small {n:Nat} (h:n < 1000000000):nl n<=1:=nl_iff.2 h
theorem bin_mid {a b q m:Nat} (hb:0 < b) (hq:a / b=q):b * m<=a ↔ m<=q:=by
 rw [<-hq,Nat.le_div_iff_mul_le hb,Nat.mul_comm]
theorem div_lt9 {a b:Nat} (h:a < b * 1000000000):a / b < 1000000000:=by
 rcases Nat.eq_zero_or_pos b with rfl|hb
 ·simp at h
 ·rw [Nat.div_lt_iff_lt_mul hb,Nat.mul_comm]; exact h
theorem digit_fn (a b:Nat) (hb:2<=nl b) (ha:nl a<=50000) (hb2:nl b<=50000) (hab:a < b * 1000000000):Fn Tryz.prog 241 [⟨tInts,natL a⟩,⟨tInts,natL b⟩] false [⟨.int,((a / b:Nat):Int)⟩]:=by
 obtain ⟨L,hL⟩:∃ L,nl b=L+2:=⟨nl b - 2,by omega⟩
 have hb0:0 < b:=Nat.pos_of_ne_zero fun h=>by rw [h,nl_zero] at hb; omega
 have hguess:=guess_ok hL hab
 rw [show L+2=nl b by omega,show L+1=((nl b:Int) - 1).toNat by omega,show L=((nl b:Int) - 2).toNat by omega] at hguess
 obtain ⟨m2,m2',m1,s1,tp,n1,bt,q',g,e1,e2,e3,e4,e5,e6,e7,e8,e9,g1,g2,g3⟩:=hguess
 clear hL
 have hq9:=div_lt9 hab
 generalize hq:a / b=q at *
 have hla:nl a<=nl b+1:=by
  rw [nl_iff,pw_succ]
  have:=lt_nl b
  omega
 have hA:(nl a:Int)<=nl b+1:=by omega
 refine fe Tryz.func241 Tryz.ntmps241 Tryz.results241 fun hwf=>?_
 try simp (maxSteps:=9^9) only[go_sem,hA]
 repeat refine AI ?_
 repeat refine AI ?_
 refine cw (limb_fn (natL a) (nl b) (by omega)) ?_
 try simp (maxSteps:=9^9) only[go_sem]
 refine FloW.mk _ e1 ?_
 try simp (maxSteps:=9^9) only[go_sem]
 refine FloW.mk _ e2 ?_
 try simp (maxSteps:=9^9) only[go_sem]
 repeat refine AI ?_
 repeat refine AI ?_
 refine cw (limb_fn (natL a) ((nl b:Int) - 1) (by omega)) ?_
 try simp (maxSteps:=9^9) only[go_sem]
 refine FloW.mk _ e3 ?_
 try simp (maxSteps:=9^9) only[go_sem]
 refine FloW.mk _ e4 ?_
 try simp (maxSteps:=9^9) only[go_sem]
 repeat refine AI ?_
 repeat refine AI ?_
 refine cw (limb_fn (natL a) ((nl b:Int) - 2) (by omega)) ?_
 try simp (maxSteps:=9^9) only[go_sem]
 refine FloW.mk _ e5 ?_
 try simp (maxSteps:=9^9) only[go_sem]
 repeat refine AI ?_
 refine FloW.mk _ e6 ?_
 try simp (maxSteps:=9^9) only[go_sem]
 repeat refine AI ?_
 refine FloW.mk _ e7 ?_
 try simp (maxSteps:=9^9) only[go_sem]
 repeat refine AI ?_
 refine FloW.mk _ e8 ?_
 try simp (maxSteps:=9^9) only[go_sem]
 refine FtiW.mk _ e9 (by constructor<;>omega) ?_
 try simp (maxSteps:=9^9) only[go_sem]
 repeat refine AI ?_
 refine LoopG.intro _ _ _ (fun x:Int × Int=>⟨[(0,.sl .int (natL a)),(1,.sl .int (natL b)),(5,.sc (.int .i64 x.1)),(6,.sc (.int .i64 x.2))],[]⟩) (fun x=>0<=x.1/\x.2<=999999999/\x.1<=q/\q<=x.2) (fun x=>(x.2 - x.1).toNat) (max 0 ((g:Int) - 2000),min 999999999 ((g:Int)+2000)) ?_ ⟨by simp only; omega,by simp only; omega,by simp only; omega,by simp only; omega⟩ ?_
 ·exact WK
 ·rintro ⟨lo,hi⟩ ⟨h1,h2,h3,h4⟩
  simp only at h1 h2 h3 h4
  try simp (maxSteps:=9^9) only[go_sem]
  refine CondW_dec (fun hA=>?_) (fun hA=>?_)
  ·try simp (maxSteps:=9^9) only[go_sem]
   repeat refine AI ?_
   refine QuoW.pos (by omega) (by omega) ?_
   obtain ⟨m,hm⟩:∃ m:Nat,(lo+hi+1) / 2=m:=⟨((lo+hi+1) / 2).toNat,by omega⟩
   rw [hm]
   try simp (maxSteps:=9^9) only[go_sem]
   repeat refine AI ?_
   refine cw (implNatOf_fn m) ?_
   try simp (maxSteps:=9^9) only[go_sem]
   repeat refine AI ?_
   refine cw (natMul_fn b m (by omega) (Nat.le_trans (nl_small (by omega)) (by omega))) ?_
   try simp (maxSteps:=9^9) only[go_sem]
   repeat refine AI ?_
   refine cw (natCmp_fn (natL (b * m)) (natL a)) ?_
   try simp (maxSteps:=9^9) only[go_sem]
   refine CondW_dec (fun hB=>?_) (fun hB=>?_)
   ·rw [cmpN_le,bin_mid hb0 hq] at hB
    try simp (maxSteps:=9^9) only[go_sem]
    refine LoopK.mk (m,hi) ?_ ⟨by simp only; omega,by simp only; omega,by simp only; omega,by simp only; omega⟩ (by simp only; omega)
    exact WK
   ·rw [cmpN_le,bin_mid hb0 hq] at hB
    try simp (maxSteps:=9^9) only[go_sem]
    repeat refine AI ?_
    refine LoopK.mk (lo,m - 1) ?_ ⟨by simp only; omega,by simp only; omega,by simp only; omega,by simp only; omega⟩ (by simp only; omega)
    exact WK
  ·try simp (maxSteps:=9^9) only[go_sem]
   omega
theorem ni_set_self {l:List Int} {i:Nat} {d:Int} (h:i < l.length):ni (l.set i d) i=d:=by
 rw [ni_lt (by simpa using h)]; simp
theorem trim_shift (d r:Nat) (h:d < 1000000000):trimL ((d:Int) :: natL r)=natL (r * 1000000000+d):=by
 show trimL ([(d:Int)]++natL r)=_
 rw [trimL_val (lims_app (lims_one (by omega) (by omega)) (lims_natL r)),val_app,val_one,val_natL,Int.toNat_natCast]
 congr 1
 show d+pw 1 * r=_
 rw [pw_one]; omega
theorem trimmed_shift (d r:Nat) (h:d < 1000000000):Fn Tryz.prog 205 [⟨tInts,(d:Int) :: natL r⟩] false [⟨tInts,natL (r * 1000000000+d)⟩]:=by
 have:=trimmed_fn ((d:Int) :: natL r)
 rw [trim_shift d r h] at this
 exact this
theorem nl_shift {r b d:Nat} (hr:r < b) (hd:d < 1000000000):r * 1000000000+d < b * 1000000000/\nl (r * 1000000000+d)<=nl b+1:=by
 refine ⟨by omega,?_⟩
 rw [nl_iff,pw_succ]
 have:=lt_nl b
 omega
theorem dg_one {b:Nat} (h:nl b=1):dg b 0=b:=by
 rw [dg_zero]; exact Nat.mod_eq_of_lt (nl_iff.1 (by omega:nl b<=1))
theorem natDiv_fn (a b:Nat) (hb0:0 < b) (ha:nl a<=40000) (hb:nl b<=40000):Fn Tryz.prog 210 [⟨tInts,natL a⟩,⟨tInts,natL b⟩] false [⟨tInts,natL (a / b)⟩,⟨tInts,natL (a % b)⟩]:=by
 have hbn:nl b ≠ 0:=fun h=>by rw [nl_eq_zero.1 h] at hb0; omega
 refine fe Tryz.func210 Tryz.ntmps210 Tryz.results210 fun hwf=>?_
 try simp (maxSteps:=9^9) only[go_sem]
 repeat refine AI ?_
 refine cw (natCmp_fn (natL a) (natL b)) ?_
 try simp (maxSteps:=9^9) only[go_sem]
 refine CondW_dec (fun hA=>?_) (fun hA=>?_)
 ·rw [cmpN_lt] at hA
  try simp (maxSteps:=9^9) only[go_sem]
  rw [Nat.div_eq_of_lt hA,Nat.mod_eq_of_lt hA,natL_zero]
  exact ⟨rfl,rfl⟩
 ·rw [cmpN_lt] at hA
  try simp (maxSteps:=9^9) only[go_sem]
  refine CondW_dec (fun hB=>?_) (fun hB=>?_)
  ·have h1:nl b=1:=by omega
   have hb9:b < 1000000000:=nl_iff.1 (by omega:nl b<=1)
   try simp (maxSteps:=9^9) only[go_sem,hB]
   rw [dg_one h1]
   repeat refine AI ?_
   repeat refine AI ?_
   refine cw (natDivSmall_fn a b hb0 hb9 (by omega)) ?_
   try simp (maxSteps:=9^9) only[go_sem]
   repeat refine AI ?_
   refine cw (implNatOf_fn ((a % b:Nat):Int)) ?_
   try simp (maxSteps:=9^9) only[go_sem]
  ·have hb2:2<=nl b:=by omega
   try simp (maxSteps:=9^9) only[go_sem,hB]
   repeat refine AI ?_
   refine LoopG.intro _ _ _ (fun x:Nat × List Int=>⟨[(0,.sl .int (natL a)),(1,.sl .int (natL b)),(8,.row 0 0),(9,.sl .int (natL (a / pw x.1 % b))),(10,.sc (.int .i64 ((x.1:Int) - 1)))],[(0,.row 3 .int 0 true x.2)]⟩) (fun x=>x.1<=nl a/\lims x.2/\x.2.length=nl a/\val x.2=pw x.1 * (a / pw x.1 / b)) (fun x=>x.1) (nl a,List.replicate (nl a) 0) ?_ ⟨by simp,lims_rep _,by simp,by simp [val_rep,Nat.div_eq_of_lt (lt_nl a)]⟩ ?_
   ·refine Wk.mk [] ?_
    try simp (maxSteps:=9^9) only[go_sem]
    try (and_intros<;>first|rfl|omega|exact ⟨_,rfl⟩)
    all_goals (simp [Nat.div_eq_of_lt (lt_nl a),natL_zero])
   ·rintro ⟨t,out⟩ ⟨h1,h2,h3,h4⟩
    simp only at h1 h2 h3 h4
    try simp (maxSteps:=9^9) only[go_sem]
    refine CondW_dec (fun hC=>?_) (fun hC=>?_)
    ·obtain ⟨i,rfl⟩:∃ i,t=i+1:=⟨t - 1,by omega⟩
     have hd1:=dg_lt a i
     have hml:=Nat.mod_lt (a / pw (i+1)) hb0
     obtain ⟨s1,s2,s3⟩:=small_step (a:=a) (i:=i) hb0
     obtain ⟨s4,s5⟩:=small_set h2 (show i < out.length by omega) s3 h4
     have ei:((i+1:Nat):Int) - 1=i:=by omega
     obtain ⟨hr9,hrl⟩:=nl_shift hml hd1
     have hml2:nl (a / pw (i+1) % b)<=nl b:=nl_mono (Nat.le_of_lt hml)
     try simp (maxSteps:=9^9) only[go_sem,ei]
     repeat refine AI ?_
     try simp (maxSteps:=9^9) only[go_sem]
     repeat refine AI ?_
     repeat refine AI ?_
     refine cw (trimmed_shift (dg a i) (a / pw (i+1) % b) hd1) ?_
     try simp (maxSteps:=9^9) only[go_sem]
     generalize hR:a / pw (i+1) % b * 1000000000+dg a i=R at *
     repeat refine AI ?_
     refine cw (natCmp_fn (natL R) (natL b)) ?_
     try simp (maxSteps:=9^9) only[go_sem]
     refine CondW_dec (fun hD=>?_) (fun hD=>?_)
     ·rw [cmpN_ge] at hD
      try simp (maxSteps:=9^9) only[go_sem]
      repeat refine AI ?_
      refine cw (digit_fn R b hb2 (by omega) (by omega) hr9) ?_
      try simp (maxSteps:=9^9) only[go_sem]
      repeat refine AI ?_
      rw [ni_set_self (by omega)]
      repeat refine AI ?_
      refine cw (implNatOf_fn ((R / b:Nat):Int)) ?_
      try simp (maxSteps:=9^9) only[go_sem]
      repeat refine AI ?_
      refine cw (natMul_fn b (R / b) (by omega) (Nat.le_trans (nl_small s3) (by omega))) ?_
      try simp (maxSteps:=9^9) only[go_sem]
      repeat refine AI ?_
      refine cw (natSub_fn R (b * (R / b)) (Nat.mul_div_le R b) (by omega)) ?_
      try simp (maxSteps:=9^9) only[go_sem]
      repeat refine AI ?_
      refine LoopK.mk (i,out.set i ((R / b:Nat):Int)) ?_ ⟨by simp only; omega,s4,by simp [h3],by simp only; rw [s5,s2]⟩ (by simp only; omega)
      refine Wk.mk [] ?_
      try simp (maxSteps:=9^9) only[go_sem]
      try (and_intros<;>first|rfl|omega|exact ⟨_,rfl⟩)
      all_goals (have e:R - b * (R / b)=R % b:=(by have:=Nat.mod_add_div R b; omega); rw [e,s1])
     ·rw [cmpN_ge] at hD
      try simp (maxSteps:=9^9) only[go_sem]
      repeat refine AI ?_
      have hq0:R / b=0:=Nat.div_eq_of_lt (by omega)
      rw [hq0] at s2 s5
      refine LoopK.mk (i,out) ?_ ⟨by simp only; omega,h2,by simp [h3],by simp only; rw [h4,s2,pw_succ]; simp only [Nat.add_zero]; ac_rfl⟩ (by simp only; omega)
      refine Wk.mk [] ?_
      try simp (maxSteps:=9^9) only[go_sem]
      try (and_intros<;>first|rfl|omega|exact ⟨_,rfl⟩)
      all_goals (rw [<-s1,Nat.mod_eq_of_lt (by omega)])
    ·have ht:t=0:=by omega
     subst ht
     try simp (maxSteps:=9^9) only[go_sem,hC]
     repeat refine AI ?_
     refine cw (trimmed_fn out) ?_
     try simp (maxSteps:=9^9) only[go_sem]
     rw [trimL_val h2,h4,pw_zero,Nat.div_one,Nat.one_mul]
     exact ⟨rfl,rfl⟩
theorem natL_one {n:Nat} (h:0 < n) (h2:n < 1000000000):natL n=[(n:Int)]:=by
 rw [natL_pos h,Nat.mod_eq_of_lt h2,Nat.div_eq_of_lt h2,natL_zero]
theorem gcd_step {x y a b:Nat} (h:Nat.gcd x y=Nat.gcd a b):Nat.gcd y (x % y)=Nat.gcd a b:=by
 rw [<-h,Nat.gcd_comm x y,Nat.gcd_rec y x,Nat.gcd_comm]
theorem natGcd_fn (a b:Nat) (ha:nl a<=30000) (hb:nl b<=30000):Fn Tryz.prog 209 [⟨tInts,natL a⟩,⟨tInts,natL b⟩] false [⟨tInts,natL (Nat.gcd a b)⟩]:=by
 refine fe Tryz.func209 Tryz.ntmps209 Tryz.results209 fun hwf=>?_
 try simp (maxSteps:=9^9) only[go_sem]
 refine LoopG.intro _ _ _ (fun x:Nat × Nat=>⟨[(0,.sl .int (natL x.1)),(1,.sl .int (natL x.2))],[]⟩) (fun x=>Nat.gcd x.1 x.2=Nat.gcd a b/\nl x.1<=30000/\nl x.2<=30000) (fun x=>x.2) (a,b) ?_ ⟨rfl,ha,hb⟩ ?_
 ·exact WK
 ·rintro ⟨x,y⟩ ⟨h1,h2,h3⟩
  simp only at h1 h2 h3
  by_cases hA:(1:Int) < (nl y:Nat)
  ·have hy:0 < y:=Nat.pos_of_ne_zero fun h=>by rw [h,nl_zero] at hA; omega
   have hml:=Nat.mod_lt x hy
   have hm2:=nl_mono (Nat.le_of_lt hml)
   try simp (maxSteps:=9^9) only[go_sem,hA]
   repeat refine AI ?_
   refine cw (natDiv_fn x y hy (by omega) (by omega)) ?_
   try simp (maxSteps:=9^9) only[go_sem]
   refine LoopK.mk (y,x % y) ?_ ⟨gcd_step h1,h3,by simp only; omega⟩ (by simp only; omega)
   exact WK
  ·by_cases hy:y=0
   ·subst hy
    have hB:(nl 0:Int)=0:=by rw [nl_zero]; rfl
    rw [Nat.gcd_zero_right] at h1
    try simp (maxSteps:=9^9) only[go_sem,hA,hB]
    rw [h1]
   ·have hB:¬ (nl y:Int)=0:=by have:=(nl_le y hy).1; omega
    have h4:nl y=1:=by omega
    have hy9:y < 1000000000:=nl_iff.1 (by omega:nl y<=1)
    have hml:=Nat.mod_lt x (Nat.pos_of_ne_zero hy)
    try simp (maxSteps:=9^9) only[go_sem,hA,hB]
    repeat refine AI ?_
    have hsm:=natDivSmall_fn x y (Nat.pos_of_ne_zero hy) hy9 (by omega)
    rw [<-dg_one h4] at hsm
    repeat refine AI ?_
    refine cw hsm ?_
    try simp (maxSteps:=9^9) only[go_sem]
    repeat refine AI ?_
    rw [dg_one h4]
    refine LoopG.intro _ _ _ (fun z:Nat × Nat=>⟨[(8,.sc (.int .i64 z.2)),(9,.sc (.int .i64 z.1))],[]⟩) (fun z=>Nat.gcd z.1 z.2=Nat.gcd a b/\0 < z.1/\z.1 < 1000000000/\z.2 < 1000000000) (fun z=>z.2) (y,x % y) ?_ ⟨gcd_step h1,Nat.pos_of_ne_zero hy,hy9,by simp only; omega⟩ ?_
    ·exact WK
    ·rintro ⟨u,v⟩ ⟨g1,g2,g3,g4⟩
     simp only at g1 g2 g3 g4
     try simp (maxSteps:=9^9) only[go_sem]
     refine CondW_dec (fun hC=>?_) (fun hC=>?_)
     ·have hv:0 < v:=by omega
      have hml2:=Nat.mod_lt u hv
      try simp (maxSteps:=9^9) only[go_sem]
      refine RemW.pos (by omega) (by omega) ?_
      try simp (maxSteps:=9^9) only[go_sem]
      repeat refine AI ?_
      refine LoopK.mk (v,u % v) ?_ ⟨gcd_step g1,hv,g4,by simp only; omega⟩ (by simp only; omega)
      exact WK
     ·have hv:v=0:=by omega
      subst hv
      rw [Nat.gcd_zero_right] at g1
      try simp (maxSteps:=9^9) only[go_sem]
      rw [<-g1,natL_one g2 g3]
abbrev DB:Type:=Bool × List Int
abbrev DR:Type:=DB × List Int
def bigD (z:Int):DB:=(decide (z < 0),natL z.natAbs)
def bZ:DB:=(false,[])
theorem bigD_zero:bigD 0=bZ:=by simp [bigD,bZ,natL_zero]
theorem bigD_inj {x y:Int} (h:bigD x=bigD y):x=y:=by
 simp only [bigD,Prod.mk.injEq,decide_eq_decide] at h
 have:=natL_inj h.2
 omega
theorem bigD_nat (n:Nat):bigD n=(false,natL n):=by
 rw [bigD,Int.natAbs_natCast,decide_eq_false (by omega)]
def sgn (s:Bool) (n:Nat):Int:=if s then -(n:Int) else n
theorem bigD_sgn (s:Bool) (n:Nat):bigD (sgn s n)=(s && decide (0 < n),natL n):=by
 cases s with
 | false=>simp only [sgn,Bool.false_eq_true,if_false,bigD_nat,Bool.false_and]
 | true =>
  simp only [sgn,if_true,bigD,Int.natAbs_neg,Int.natAbs_natCast,Bool.true_and]
  congr 1
  rw [decide_eq_decide]; omega
theorem sgn_bigD (z:Int):sgn (decide (z < 0)) z.natAbs=z:=by
 unfold sgn; split<;>simp_all<;>omega
def okBP (x:DB):Prop:=okNP x.2/\¬ (x.1=true/\x.2.length=0)
noncomputable def okB (x:DB):Bool:=bdec (okBP x)
theorem okBP_bigD {z:Int}:okBP (bigD z) ↔ nl z.natAbs<=60:=by
 unfold okBP bigD
 simp only [okNP_natL,natL_len_nl,nl_eq_zero,decide_eq_true_eq]
 constructor
 ·exact fun h=>h.1
 ·exact fun h=>⟨h,by omega⟩
theorem okBP_iff {x:DB}:okBP x ↔ ∃ z:Int,x=bigD z/\nl z.natAbs<=60:=by
 constructor
 ·intro h
  obtain ⟨n,e,hn⟩:=okNP_iff.1 h.1
  refine ⟨sgn x.1 n,?_,?_⟩
  ·rw [bigD_sgn]
   obtain ⟨s,l⟩:=x
   simp only at e h ⊢
   subst e
   have h2:=h.2
   simp only [natL_len_nl,nl_eq_zero] at h2
   cases s with
   | false=>rfl
   | true =>
    have:0 < n:=by simp at h2; omega
    simp [this]
  ·have:(sgn x.1 n).natAbs=n:=by unfold sgn; split<;>omega
   rw [this]; exact hn
 ·rintro ⟨z,rfl,h⟩; exact okBP_bigD.2 h
theorem okB_bigD {z:Int} (h:nl z.natAbs<=60):okB (bigD z)=true:=bdec_t (okBP_bigD.2 h)
def cmpZ (a b:Int):Int:=if a < b then -1 else if b < a then 1 else 0
def small (q:Rat):Prop:=nl q.num.natAbs<=24/\nl q.den<=24
def ratD (q:Rat):DR:=(bigD q.num,natL q.den)
def rZ:DR:=(bZ,[])
def oD:Option Rat->DR
 | none=>rZ
 | some q=>ratD q
theorem den_pos' (q:Rat):0 < q.den:=Nat.pos_of_ne_zero q.den_nz
theorem ratD_ne (q:Rat):ratD q ≠ rZ:=fun h=>by
 have h2:natL q.den=[]:=congrArg Prod.snd h
 exact q.den_nz (natL_nil.1 h2)
theorem ratD_inj {p q:Rat} (h:ratD p=ratD q):p=q:=by
 simp only [ratD,Prod.mk.injEq] at h
 exact Rat.ext (bigD_inj h.1) (natL_inj h.2)
noncomputable def capR (q:Rat):Option Rat:=@ite _ (small q) (Classical.propDecidable _) (some q) none
theorem capR_s {q:Rat} (h:small q):capR q=some q:=if_pos h
theorem capR_n {q:Rat} (h:¬ small q):capR q=none:=if_neg h
def okO (x:Option Rat):Prop:=∀ q,x=some q->small q
theorem okO_none:okO none:=fun _ h=>by cases h
theorem okO_cap (q:Rat):okO (capR q):=fun p h=>by
 by_cases hs:small q
 ·rw [capR_s hs] at h; injection h with h; exact h ▸ hs
 ·rw [capR_n hs] at h; cases h
noncomputable def rdO (r:DR):Option Rat:=@dite _ (∃ q,small q/\r=ratD q) (Classical.propDecidable _) (fun h=>some (Classical.choose h)) (fun _=>none)
theorem rdO_ratD {q:Rat} (h:small q):rdO (ratD q)=some q:=by
 have he:∃ p,small p/\ratD q=ratD p:=⟨q,h,rfl⟩
 unfold rdO
 rw [dif_pos he]
 exact congrArg some (ratD_inj (Classical.choose_spec he).2.symm)
theorem rdO_oD {x:Option Rat} (h:okO x):rdO (oD x)=x:=by
 cases x with
 | none =>
  unfold rdO
  rw [dif_neg]
  rintro ⟨q,_,hq⟩
  exact ratD_ne q hq.symm
 | some q=>exact rdO_ratD (h q rfl)
theorem rdO_some {r:DR} {q:Rat} (h:rdO r=some q):small q/\r=ratD q:=by
 unfold rdO at h
 split at h
 ·rename_i he
  injection h with h
  rw [<-h]; exact Classical.choose_spec he
 ·cases h
theorem okO_rdO (r:DR):okO (rdO r):=fun q h=>(rdO_some h).1
noncomputable def okR (r:DR):Bool:=(rdO r).isSome
theorem okR_ratD {q:Rat} (h:small q):okR (ratD q)=true:=by rw [okR,rdO_ratD h]; rfl
theorem okR_t {r:DR} (h:okR r=true):∃ q,small q/\r=ratD q/\rdO r=some q:=by
 unfold okR at h
 cases hr:rdO r with
 | none=>rw [hr] at h; cases h
 | some q=>exact ⟨q,(rdO_some hr).1,(rdO_some hr).2,rfl⟩
theorem okR_iff {r:DR}:okR r=true ↔ okBP r.1/\okNP r.2/\r.2 ≠ []/\r.1.2.length<=24/\r.2.length<=24/\Nat.gcd (val r.1.2) (val r.2)=1:=by
 constructor
 ·intro h
  obtain ⟨q,⟨h1,h2⟩,rfl,_⟩:=okR_t h
  simp only [ratD,bigD,natL_len_nl,val_natL]
  refine ⟨okBP_bigD.2 (by omega),okNP_natL.2 (by omega),fun h=>q.den_nz (natL_nil.1 h),h1,h2,q.reduced⟩
 ·rintro ⟨h1,h2,h3,h4,h5,h6⟩
  obtain ⟨z,hz,hzl⟩:=okBP_iff.1 h1
  obtain ⟨n,hn,hnl⟩:=okNP_iff.1 h2
  obtain ⟨x,l⟩:=r
  simp only at hz hn h3 h4 h5 h6
  subst hz hn
  simp only [bigD,natL_len_nl,val_natL] at h4 h5 h6
  have hn0:n ≠ 0:=fun h=>h3 (natL_nil.2 h)
  exact okR_ratD (q:=⟨z,n,hn0,h6⟩) ⟨h4,h5⟩
noncomputable def addO:Option Rat->Option Rat->Option Rat
 | some p,some q=>capR (p+q)
 | _,_=>none
noncomputable def mulO:Option Rat->Option Rat->Option Rat
 | some p,some q=>capR (p * q)
 | _,_=>none
noncomputable def divO:Option Rat->Option Rat->Option Rat
 | some p,some q=>@ite _ (q=0) (Classical.propDecidable _) none (capR (p / q))
 | _,_=>none
def negO:Option Rat->Option Rat
 | some p=>some (-p)
 | none=>none
noncomputable def subO (x y:Option Rat):Option Rat:=addO x (negO y)
noncomputable def cmpQ (p q:Rat):Int:=if p < q then -1 else if q < p then 1 else 0
noncomputable def cmpO:Option Rat->Option Rat->Int
 | some p,some q=>cmpQ p q
 | _,_=>0
noncomputable def sgnO:Option Rat->Int
 | some p=>cmpQ p 0
 | none=>0
theorem okO_add (x y:Option Rat):okO (addO x y):=by
 unfold addO; split
 ·exact okO_cap _
 ·exact okO_none
theorem okO_mul (x y:Option Rat):okO (mulO x y):=by
 unfold mulO; split
 ·exact okO_cap _
 ·exact okO_none
theorem small_neg {q:Rat} (h:small q):small (-q):=by
 unfold small at *
 rw [Rat.neg_num,Rat.neg_den,Int.natAbs_neg]; exact h
theorem okO_neg {x:Option Rat} (h:okO x):okO (negO x):=by
 cases x with
 | none=>exact okO_none
 | some q=>intro p hp; injection hp with hp; subst hp; exact small_neg (h q rfl)
theorem okO_sub (x y:Option Rat):okO (subO x y):=okO_add _ _
theorem mk_parts {z:Int} {n:Nat} (hn:n ≠ 0):(_root_.mkRat z n).num=z / (Nat.gcd z.natAbs n:Nat)/\(_root_.mkRat z n).den=n / Nat.gcd z.natAbs n:=by
 rw [Rat.num_mkRat,Rat.den_mkRat,if_neg hn,if_neg hn,Nat.gcd_comm]; exact ⟨rfl,rfl⟩
theorem add_mk (p q:Rat):p+q=_root_.mkRat (p.num * q.den+q.num * p.den) (p.den * q.den):=by
 have h:=Rat.mkRat_add_mkRat p.num q.num p.den_nz q.den_nz
 rw [Rat.mkRat_self,Rat.mkRat_self] at h; exact h
theorem mul_mk (p q:Rat):p * q=_root_.mkRat (p.num * q.num) (p.den * q.den):=by
 have h:=Rat.mkRat_mul_mkRat p.num q.num p.den q.den
 rw [Rat.mkRat_self,Rat.mkRat_self] at h; exact h
theorem cmpQ_eq (p q:Rat):cmpQ p q=cmpZ (p.num * q.den) (q.num * p.den):=by
 unfold cmpQ cmpZ
 simp only [Rat.lt_iff]
theorem mk_abs {z:Int} {n:Nat} (hn:n ≠ 0):(_root_.mkRat z n).num.natAbs=z.natAbs / Nat.gcd z.natAbs n/\(_root_.mkRat z n).den=n / Nat.gcd z.natAbs n/\decide ((_root_.mkRat z n).num < 0)=decide (z < 0):=by
 obtain ⟨h1,h2⟩:=mk_parts (z:=z) hn
 have hg:0 < Nat.gcd z.natAbs n:=Nat.gcd_pos_of_pos_right _ (Nat.pos_of_ne_zero hn)
 have hd:Nat.gcd z.natAbs n ∣ z.natAbs:=Nat.gcd_dvd_left ..
 rw [h1,h2]
 generalize Nat.gcd z.natAbs n=g at *
 obtain ⟨k,hk⟩:=hd
 have hk2:z.natAbs / g=k:=by rw [hk,Nat.mul_div_cancel_left _ hg]
 have hz:z=sgn (decide (z < 0)) z.natAbs:=(sgn_bigD z).symm
 have hgz:z / (g:Int)=sgn (decide (z < 0)) k:=by
  have hg':(g:Int) ≠ 0:=by omega
  have e:z=(g:Int) * sgn (decide (z < 0)) k:=by
   rw [hk] at hz
   by_cases h:z < 0
   ·simp only [sgn,h,decide_true,if_true,Int.natCast_mul] at hz ⊢
    rw [Int.mul_neg]; exact hz
   ·simp only [sgn,h,decide_false,Bool.false_eq_true,if_false,Int.natCast_mul] at hz ⊢
    exact hz
  conv=>lhs; rw [e]
  exact Int.mul_ediv_cancel_left _ hg'
 rw [hgz,hk2]
 refine ⟨by unfold sgn; split<;>omega,rfl,?_⟩
 rw [decide_eq_decide]
 unfold sgn
 by_cases h:z < 0
 ·have hkp:0 < k:=by
   rcases Nat.eq_zero_or_pos k with h0|h0
   ·rw [h0,Nat.mul_zero] at hk; omega
   ·exact h0
  simp [h]; omega
 ·simp [h]
attribute [go_sem] bigD
theorem nlpos {n:Nat}:(0:Int) < (nl n:Nat) ↔ 0 < n:=by
 by_cases h:n=0
 ·subst h; rw [nl_zero]; simp
 ·have:=(nl_le n h).1; omega
theorem sgn_mul (x y:Int):sgn (!(decide (x < 0) == decide (y < 0))) (x.natAbs * y.natAbs)=x * y:=by
 unfold sgn
 rw [Int.natCast_mul]
 by_cases hx:x < 0<;>by_cases hy:y < 0<;>simp only [hx,hy,decide_true,decide_false,beq_self_eq_true,Bool.not_true,Bool.false_eq_true,if_false,Bool.not_false,if_true,beq_iff_eq,reduceCtorEq]
 ·rw [show (x.natAbs:Int)=-x by omega,show (y.natAbs:Int)=-y by omega,Int.neg_mul_neg]
 ·have e:(!(true == false))=true:=rfl
  rw [e,if_pos rfl,show (x.natAbs:Int)=-x by omega,show (y.natAbs:Int)=y by omega,Int.neg_mul,Int.neg_neg]
 ·have e:(!(false == true))=true:=rfl
  rw [e,if_pos rfl,show (x.natAbs:Int)=x by omega,show (y.natAbs:Int)=-y by omega,Int.mul_neg,Int.neg_neg]
 ·rw [show (x.natAbs:Int)=x by omega,show (y.natAbs:Int)=y by omega]
theorem cmpZ_nn {x y:Int} (hx:x < 0) (hy:y < 0):cmpN y.natAbs x.natAbs=cmpZ x y:=by
 unfold cmpN cmpZ
 by_cases h1:x < y
 ·rw [if_pos (by omega),if_pos h1]
 ·by_cases h2:y < x
  ·rw [if_neg (by omega),if_pos (by omega),if_neg h1,if_pos h2]
  ·rw [if_neg (by omega),if_neg (by omega),if_neg h1,if_neg h2]
theorem cmpZ_pp {x y:Int} (hx:¬ x < 0) (hy:¬ y < 0):cmpN x.natAbs y.natAbs=cmpZ x y:=by
 unfold cmpN cmpZ
 by_cases h1:x < y
 ·rw [if_pos (by omega),if_pos h1]
 ·by_cases h2:y < x
  ·rw [if_neg (by omega),if_pos (by omega),if_neg h1,if_pos h2]
  ·rw [if_neg (by omega),if_neg (by omega),if_neg h1,if_neg h2]
theorem cmpZ_np {x y:Int} (hx:x < 0) (hy:¬ y < 0):cmpZ x y=-1:=by unfold cmpZ; rw [if_pos (by omega)]
theorem cmpZ_pn {x y:Int} (hx:¬ x < 0) (hy:y < 0):cmpZ x y=1:=by unfold cmpZ; rw [if_neg (by omega),if_pos (by omega)]
theorem clone_fn (l:List Int) (hl:l.length<=16777216):Fn Tryz.prog 64 [⟨tInts,l⟩] true [⟨tInts,l⟩]:=by
 refine fe Tryz.func64 Tryz.ntmps64 Tryz.results64 fun hwf=>?_
 try simp (maxSteps:=9^9) only[go_sem]
 refine NilW.eq ?_
 try simp (maxSteps:=9^9) only[go_sem]
 refine CondW_nb (fun h=>?_) (fun h=>?_)
 ·try simp (maxSteps:=9^9) only[go_sem,h]
 ·try simp (maxSteps:=9^9) only[go_sem]
  repeat refine AI ?_
  try simp (maxSteps:=9^9) only[go_sem]
  omega
theorem bigMake_fn (s:Bool) (n:Nat):Fn Tryz.prog 171 [⟨.bool,s⟩,⟨tInts,natL n⟩] false [⟨tBig,bigD (sgn s n)⟩]:=by
 rw [bigD_sgn]
 cases s
 ·refine fe Tryz.func171 Tryz.ntmps171 Tryz.results171 fun hwf=>?_
  try simp (maxSteps:=9^9) only[go_sem]
 ·refine fe Tryz.func171 Tryz.ntmps171 Tryz.results171 fun hwf=>?_
  try simp (maxSteps:=9^9) only[go_sem]
  simp only [nlpos]
theorem bigMake_to {s:Bool} {n:Nat} {z:Int} (h:sgn s n=z):Fn Tryz.prog 171 [⟨.bool,s⟩,⟨tInts,natL n⟩] false [⟨tBig,bigD z⟩]:=h ▸ bigMake_fn s n
theorem bigNeg_fn (z:Int):Fn Tryz.prog 206 [⟨tBig,bigD z⟩] false [⟨tBig,bigD (-z)⟩]:=by
 refine fe Tryz.func206 Tryz.ntmps206 Tryz.results206 fun hwf=>?_
 try simp (maxSteps:=9^9) only[go_sem]
 repeat refine AI ?_
 refine cw (bigMake_to (s:=!decide (z < 0)) (n:=z.natAbs) (z:=-z) (by unfold sgn; by_cases h:z < 0<;>simp [h]<;>omega)) ?_
 try simp (maxSteps:=9^9) only[go_sem]
theorem bigAdd_fn (x y:Int) (hx:nl x.natAbs<=10000) (hy:nl y.natAbs<=10000):Fn Tryz.prog 178 [⟨tBig,bigD x⟩,⟨tBig,bigD y⟩] false [⟨tBig,bigD (x+y)⟩]:=by
 refine fe Tryz.func178 Tryz.ntmps178 Tryz.results178 fun hwf=>?_
 try simp (maxSteps:=9^9) only[go_sem]
 refine CondW_b (fun h=>?_) (fun h=>?_)
 ·have hs:decide (x < 0)=decide (y < 0):=by simpa using h
  try simp (maxSteps:=9^9) only[go_sem]
  repeat refine AI ?_
  refine cw (natAdd_fn x.natAbs y.natAbs (by omega) (by omega)) ?_
  try simp (maxSteps:=9^9) only[go_sem]
  repeat refine AI ?_
  refine cw (bigMake_to (s:=decide (x < 0)) (n:=x.natAbs+y.natAbs) (z:=x+y) (by unfold sgn; by_cases h:x < 0<;>by_cases h2:y < 0<;>simp [h,h2] at hs ⊢<;>omega)) ?_
  try simp (maxSteps:=9^9) only[go_sem]
  kernel_rfl
 ·have hs:decide (x < 0) ≠ decide (y < 0):=by simpa using h
  try simp (maxSteps:=9^9) only[go_sem]
  repeat refine AI ?_
  refine cw (natCmp_fn (natL x.natAbs) (natL y.natAbs)) ?_
  try simp (maxSteps:=9^9) only[go_sem]
  refine CondW_dec (fun hc=>?_) (fun hc=>?_)
  ·rw [cmpN_ge] at hc
   try simp (maxSteps:=9^9) only[go_sem]
   repeat refine AI ?_
   refine cw (natSub_fn x.natAbs y.natAbs hc (by omega)) ?_
   try simp (maxSteps:=9^9) only[go_sem]
   repeat refine AI ?_
   refine cw (bigMake_to (s:=decide (x < 0)) (n:=x.natAbs - y.natAbs) (z:=x+y) (by unfold sgn; by_cases h:x < 0<;>by_cases h2:y < 0<;>simp [h,h2] at hs ⊢<;>omega)) ?_
   try simp (maxSteps:=9^9) only[go_sem]
   kernel_rfl
  ·rw [cmpN_ge] at hc
   try simp (maxSteps:=9^9) only[go_sem]
   repeat refine AI ?_
   refine cw (natSub_fn y.natAbs x.natAbs (by omega) (by omega)) ?_
   try simp (maxSteps:=9^9) only[go_sem]
   repeat refine AI ?_
   refine cw (bigMake_to (s:=decide (y < 0)) (n:=y.natAbs - x.natAbs) (z:=x+y) (by unfold sgn; by_cases h:x < 0<;>by_cases h2:y < 0<;>simp [h,h2] at hs ⊢<;>omega)) ?_
   try simp (maxSteps:=9^9) only[go_sem]
   kernel_rfl
theorem bigMul_fn (x y:Int) (hx:nl x.natAbs<=10000) (hy:nl y.natAbs<=10000):Fn Tryz.prog 127 [⟨tBig,bigD x⟩,⟨tBig,bigD y⟩] false [⟨tBig,bigD (x * y)⟩]:=by
 refine fe Tryz.func127 Tryz.ntmps127 Tryz.results127 fun hwf=>?_
 try simp (maxSteps:=9^9) only[go_sem]
 repeat refine AI ?_
 refine cw (natMul_fn x.natAbs y.natAbs (by omega) (by omega)) ?_
 try simp (maxSteps:=9^9) only[go_sem]
 repeat refine AI ?_
 refine cw (bigMake_to (s:=!(decide (x < 0) == decide (y < 0))) (n:=x.natAbs * y.natAbs) (z:=x * y) (sgn_mul x y)) ?_
 try simp (maxSteps:=9^9) only[go_sem]
 kernel_rfl
theorem bigCmp_fn (x y:Int):Fn Tryz.prog 126 [⟨tBig,bigD x⟩,⟨tBig,bigD y⟩] false [⟨.int,cmpZ x y⟩]:=by
 by_cases hx:x < 0<;>by_cases hy:y < 0
 ·refine fe Tryz.func126 Tryz.ntmps126 Tryz.results126 fun hwf=>?_
  try simp (maxSteps:=9^9) only[go_sem,hx,hy]
  repeat refine AI ?_
  refine cw (natCmp_fn (natL y.natAbs) (natL x.natAbs)) ?_
  try simp (maxSteps:=9^9) only[go_sem]
  exact cmpZ_nn hx hy
 ·refine fe Tryz.func126 Tryz.ntmps126 Tryz.results126 fun hwf=>?_
  try simp (maxSteps:=9^9) only[go_sem,hx,hy]
  exact (cmpZ_np hx hy).symm
 ·refine fe Tryz.func126 Tryz.ntmps126 Tryz.results126 fun hwf=>?_
  try simp (maxSteps:=9^9) only[go_sem,hx,hy]
  exact (cmpZ_pn hx hy).symm
 ·refine fe Tryz.func126 Tryz.ntmps126 Tryz.results126 fun hwf=>?_
  try simp (maxSteps:=9^9) only[go_sem,hx,hy]
  repeat refine AI ?_
  refine cw (natCmp_fn (natL x.natAbs) (natL y.natAbs)) ?_
  try simp (maxSteps:=9^9) only[go_sem]
  exact cmpZ_pp hx hy
theorem ownBig_fn (z:Int) (hz:nl z.natAbs<=60):Fn Tryz.prog 211 [⟨tBig,bigD z⟩] true [⟨tBig,bigD z⟩]:=by
 have hA:¬ (60:Int) < nl z.natAbs:=by omega
 refine fe Tryz.func211 Tryz.ntmps211 Tryz.results211 fun hwf=>?_
 try simp (maxSteps:=9^9) only[go_sem,hA]
 repeat refine AI ?_
 refine cw (clone_fn (natL z.natAbs) (by show nl z.natAbs<=16777216; omega)) ?_
 try simp (maxSteps:=9^9) only[go_sem]
 kernel_rfl
theorem okB_eq (s:Bool) (l:List Int):okB (s,l)=(okN l && !(s && decide ((l.length:Int)=0))):=by
 by_cases h1:okNP l
 ·by_cases h2:l.length=0
  ·cases s
   ·rw [okB,bdec_t ⟨h1,fun h=>by cases h.1⟩,okN,bdec_t h1]; rfl
   ·rw [okB,bdec_f fun h=>h.2 ⟨rfl,h2⟩,h2]; simp
  ·rw [okB,bdec_t ⟨h1,fun h=>h2 h.2⟩,okN,bdec_t h1,decide_eq_false (by omega)]; simp
 ·rw [okB,bdec_f fun h=>h1 h.1,okN,bdec_f h1]; rfl
theorem implBigIntOk_fn (x:DB):Fn Tryz.prog 231 [⟨tBig,x⟩] false [⟨.bool,okB x⟩]:=by
 obtain ⟨s,l⟩:=x
 rw [okB_eq]
 cases hN:okN l<;>cases s
 all_goals
  refine fe Tryz.func231 Tryz.ntmps231 Tryz.results231 fun hwf=>?_
  try simp (maxSteps:=9^9) only[go_sem]
  repeat refine AI ?_
  refine cw (implNatOk_fn l) ?_
  try simp (maxSteps:=9^9) only[go_sem]
  try simp (maxSteps:=9^9) only[go_sem,hN]
@[go_sem] theorem oD_s (q:Rat):oD (some q)=ratD q:=(rfl)
@[go_sem] theorem oD_n:oD none=rZ:=(rfl)
attribute [go_sem] ratD rZ bZ
theorem one_iff {n:Nat}:((nl n:Int)=1/\(dg n 0:Int)=1) ↔ n=1:=by
 constructor
 ·rintro ⟨h1,h2⟩
  have:=dg_one (b:=n) (by omega)
  omega
 ·rintro rfl
  have h:nl 1=1:=by rw [nl_pos (by decide),show 1 / 1000000000=0 from rfl,nl_zero]
  exact ⟨by omega,by have:=dg_one h; omega⟩
theorem isOne_fn (n:Nat):Fn Tryz.prog 208 [⟨tInts,natL n⟩] false [⟨.bool,decide (n=1)⟩]:=by
 by_cases h1:(nl n:Int)=1
 ·have hiff:=@one_iff n
  refine fe Tryz.func208 Tryz.ntmps208 Tryz.results208 fun hwf=>?_
  try simp (maxSteps:=9^9) only[go_sem,h1]
  repeat refine AI ?_
  rw [decide_eq_decide]; omega
 ·have hn:n ≠ 1:=fun h=>h1 (one_iff.2 h).1
  refine fe Tryz.func208 Tryz.ntmps208 Tryz.results208 fun hwf=>?_
  try simp (maxSteps:=9^9) only[go_sem,h1]
  simp [hn]
theorem bool_ext' {a b:Bool} (h:a=true ↔ b=true):a=b:=by cases a<;>cases b<;>simp_all
theorem okB_iff {x:DB}:okB x=true ↔ okBP x:=by
 constructor
 ·intro h; exact Classical.byContradiction fun hn=>by rw [okB,bdec_f hn] at h; cases h
 ·exact fun h=>bdec_t h
theorem okN_iff {l:List Int}:okN l=true ↔ okNP l:=by
 constructor
 ·intro h; exact Classical.byContradiction fun hn=>by rw [okN,bdec_f hn] at h; cases h
 ·exact fun h=>bdec_t h
theorem okR_eq (x:DB) (d:List Int):okR (x,d)=(okB x && okN d && !decide ((d.length:Int)=0) && !decide (24 < (x.2.length:Int)) && !decide (24 < (d.length:Int)) && decide (Nat.gcd (val x.2) (val d)=1)):=by
 apply bool_ext'
 rw [okR_iff]
 simp only [Bool.and_eq_true,okB_iff,okN_iff,Bool.not_eq_true',decide_eq_false_iff_not,decide_eq_true_eq,and_assoc]
 constructor
 ·rintro ⟨h1,h2,h3,h4,h5,h6⟩
  refine ⟨h1,h2,fun h=>h3 (List.eq_nil_of_length_eq_zero (by omega)),by omega,by omega,h6⟩
 ·rintro ⟨h1,h2,h3,h4,h5,h6⟩
  refine ⟨h1,h2,fun h=>h3 (by rw [h]; rfl),by omega,by omega,h6⟩
theorem implRatOk_fn (r:DR):Fn Tryz.prog 196 [⟨tRat,r⟩] false [⟨.bool,okR r⟩]:=by
 obtain ⟨x,d⟩:=r
 rw [okR_eq]
 cases h1:okB x
 ·refine fe Tryz.func196 Tryz.ntmps196 Tryz.results196 fun hwf=>?_
  try simp (maxSteps:=9^9) only[go_sem]
  repeat refine AI ?_
  refine cw (implBigIntOk_fn x) ?_
  try simp (maxSteps:=9^9) only[go_sem]
  try simp (maxSteps:=9^9) only[go_sem,h1]
 cases h2:okN d
 ·refine fe Tryz.func196 Tryz.ntmps196 Tryz.results196 fun hwf=>?_
  try simp (maxSteps:=9^9) only[go_sem]
  repeat refine AI ?_
  refine cw (implBigIntOk_fn x) ?_
  try simp (maxSteps:=9^9) only[go_sem]
  try simp (maxSteps:=9^9) only[go_sem,h1]
  repeat refine AI ?_
  refine cw (implNatOk_fn d) ?_
  try simp (maxSteps:=9^9) only[go_sem]
  try simp (maxSteps:=9^9) only[go_sem,h2]
 by_cases h3:(d.length:Int)=0
 ·refine fe Tryz.func196 Tryz.ntmps196 Tryz.results196 fun hwf=>?_
  try simp (maxSteps:=9^9) only[go_sem]
  repeat refine AI ?_
  refine cw (implBigIntOk_fn x) ?_
  try simp (maxSteps:=9^9) only[go_sem]
  try simp (maxSteps:=9^9) only[go_sem,h1]
  repeat refine AI ?_
  refine cw (implNatOk_fn d) ?_
  try simp (maxSteps:=9^9) only[go_sem]
  try simp (maxSteps:=9^9) only[go_sem,h2,h3]
 by_cases h4:24 < (x.2.length:Int)
 ·refine fe Tryz.func196 Tryz.ntmps196 Tryz.results196 fun hwf=>?_
  try simp (maxSteps:=9^9) only[go_sem]
  repeat refine AI ?_
  refine cw (implBigIntOk_fn x) ?_
  try simp (maxSteps:=9^9) only[go_sem]
  try simp (maxSteps:=9^9) only[go_sem,h1]
  repeat refine AI ?_
  refine cw (implNatOk_fn d) ?_
  try simp (maxSteps:=9^9) only[go_sem]
  try simp (maxSteps:=9^9) only[go_sem,h2,h3,h4]
 by_cases h5:24 < (d.length:Int)
 ·refine fe Tryz.func196 Tryz.ntmps196 Tryz.results196 fun hwf=>?_
  try simp (maxSteps:=9^9) only[go_sem]
  repeat refine AI ?_
  refine cw (implBigIntOk_fn x) ?_
  try simp (maxSteps:=9^9) only[go_sem]
  try simp (maxSteps:=9^9) only[go_sem,h1]
  repeat refine AI ?_
  refine cw (implNatOk_fn d) ?_
  try simp (maxSteps:=9^9) only[go_sem]
  try simp (maxSteps:=9^9) only[go_sem,h2,h3,h4,h5]
 obtain ⟨z,rfl,_⟩:=okBP_iff.1 (okB_iff.1 h1)
 obtain ⟨n,rfl,_⟩:=okNP_iff.1 (okN_iff.1 h2)
 have h1':okB (decide (z < 0),natL z.natAbs)=true:=h1
 have h3':¬ (nl n:Int)=0:=h3
 have h4':¬ 24 < (nl z.natAbs:Int):=h4
 have h5':¬ 24 < (nl n:Int):=h5
 have hv:val (bigD z).2=z.natAbs:=val_natL _
 rw [hv,val_natL]
 by_cases hn:n=1
 ·refine fe Tryz.func196 Tryz.ntmps196 Tryz.results196 fun hwf=>?_
  try simp (maxSteps:=9^9) only[go_sem]
  repeat refine AI ?_
  refine cw (implBigIntOk_fn (bigD z)) ?_
  try simp (maxSteps:=9^9) only[go_sem]
  try simp (maxSteps:=9^9) only[go_sem,h1']
  repeat refine AI ?_
  refine cw (implNatOk_fn (natL n)) ?_
  try simp (maxSteps:=9^9) only[go_sem]
  try simp (maxSteps:=9^9) only[go_sem,h2,h3',h4',h5']
  repeat refine AI ?_
  refine cw (isOne_fn n) ?_
  try simp (maxSteps:=9^9) only[go_sem]
  try simp (maxSteps:=9^9) only[go_sem,hn]
  simp
 ·refine fe Tryz.func196 Tryz.ntmps196 Tryz.results196 fun hwf=>?_
  try simp (maxSteps:=9^9) only[go_sem]
  repeat refine AI ?_
  refine cw (implBigIntOk_fn (bigD z)) ?_
  try simp (maxSteps:=9^9) only[go_sem]
  try simp (maxSteps:=9^9) only[go_sem,h1']
  repeat refine AI ?_
  refine cw (implNatOk_fn (natL n)) ?_
  try simp (maxSteps:=9^9) only[go_sem]
  try simp (maxSteps:=9^9) only[go_sem,h2,h3',h4',h5']
  repeat refine AI ?_
  refine cw (isOne_fn n) ?_
  try simp (maxSteps:=9^9) only[go_sem]
  try simp (maxSteps:=9^9) only[go_sem,hn]
  repeat refine AI ?_
  refine cw (natGcd_fn z.natAbs n (by omega) (by omega)) ?_
  try simp (maxSteps:=9^9) only[go_sem]
  repeat refine AI ?_
  refine cw (isOne_fn (Nat.gcd z.natAbs n)) ?_
  try simp (maxSteps:=9^9) only[go_sem]
theorem isGood_fn (x:Option Rat):Fn Tryz.prog 121 [⟨tRat,oD x⟩] false [⟨.bool,x.isSome⟩]:=by
 cases x with
 | none =>
  refine fe Tryz.func121 Tryz.ntmps121 Tryz.results121 fun hwf=>?_
  try simp (maxSteps:=9^9) only[go_sem]
  rfl
 | some q =>
  have h:(0:Int) < nl q.den:=nlpos.2 (den_pos' q)
  refine fe Tryz.func121 Tryz.ntmps121 Tryz.results121 fun hwf=>?_
  try simp (maxSteps:=9^9) only[go_sem,h]
theorem capR_data {q:Rat} (h:small q):oD (capR q)=((decide (q.num < 0),natL q.num.natAbs),natL q.den):=by rw [capR_s h]; rfl
theorem capR_none {q:Rat} (h:¬ small q):oD (capR q)=((false,[]),[]):=by rw [capR_n h]; rfl
theorem bigMulN_fn (x:Int) (n:Nat) (hx:nl x.natAbs<=10000) (hy:nl n<=10000):Fn Tryz.prog 127 [⟨tBig,bigD x⟩,⟨tBig,(false,natL n)⟩] false [⟨tBig,bigD (x * n)⟩]:=by
 have:=bigMul_fn x n hx (by simpa using hy)
 rw [bigD_nat] at this
 exact this
theorem ratMake_end (z:Int) (n:Nat) (hn:n ≠ 0) (hz:nl z.natAbs<=10000) (hnl:nl n<=10000):Fn Tryz.prog 176 [⟨tBig,bigD z⟩,⟨tInts,natL n⟩] true [⟨tRat,oD (capR (_root_.mkRat z n))⟩]:=by
 obtain ⟨m1,m2,m3⟩:=mk_abs (z:=z) hn
 generalize hq:_root_.mkRat z n=q at *
 have hg0:0 < Nat.gcd z.natAbs n:=Nat.gcd_pos_of_pos_right _ (Nat.pos_of_ne_zero hn)
 have hl1:=nl_mono (Nat.div_le_self z.natAbs (Nat.gcd z.natAbs n))
 have hl2:=nl_mono (Nat.div_le_self n (Nat.gcd z.natAbs n))
 have hl3:=nl_mono (Nat.gcd_le_right z.natAbs (Nat.pos_of_ne_zero hn))
 rw [<-m1] at hl1
 rw [<-m2] at hl2
 have hpath:(decide (n=1)=true/\z.natAbs=q.num.natAbs/\n=q.den)\/(decide (n=1)=false/\decide (Nat.gcd z.natAbs n=1)=true/\z.natAbs=q.num.natAbs/\n=q.den)\/(decide (n=1)=false/\decide (Nat.gcd z.natAbs n=1)=false):=by
  by_cases h1:n=1
  ·refine .inl ⟨decide_eq_true h1,?_,?_⟩
   ·rw [m1,h1,Nat.gcd_one_right,Nat.div_one]
   ·rw [m2,h1,Nat.gcd_one_right,Nat.div_one]
  ·by_cases h2:Nat.gcd z.natAbs n=1
   ·exact .inr (.inl ⟨decide_eq_false h1,decide_eq_true h2,by rw [m1,h2,Nat.div_one],by rw [m2,h2,Nat.div_one]⟩)
   ·exact .inr (.inr ⟨decide_eq_false h1,decide_eq_false h2⟩)
 have hcn:=clone_fn (natL q.den) (by show nl q.den<=16777216; omega)
 have hob:small q->Fn Tryz.prog 211 [⟨tBig,(decide (z < 0),natL q.num.natAbs)⟩] true [⟨tBig,(decide (z < 0),natL q.num.natAbs)⟩]:=fun hs=>by
  have:=ownBig_fn q.num (by have:=hs.1; omega)
  unfold bigD at this
  rw [m3] at this
  exact this
 have hend:small q\/(24:Int) < nl q.num.natAbs\/(¬ (24:Int) < nl q.num.natAbs/\(24:Int) < nl q.den):=by unfold small; omega
 rcases hpath with ⟨hd,e1,e2⟩|⟨hd,hd2,e1,e2⟩|⟨hd,hd2⟩
 ·rcases hend with hs|hA|⟨hA,hB⟩
  ·rw [capR_data hs,m3]
   have hA:¬ (24:Int) < nl q.num.natAbs:=by have:=hs.1; omega
   have hB:¬ (24:Int) < nl q.den:=by have:=hs.2; omega
   have hob:=hob hs
   rw [<-e1] at hA hob; rw [<-e2] at hB hcn; rw [<-e1,<-e2]
   refine fe Tryz.func176 Tryz.ntmps176 Tryz.results176 fun hwf=>?_
   try simp (maxSteps:=9^9) only[go_sem]
   repeat refine AI ?_
   refine cw (isOne_fn n) ?_
   try simp (maxSteps:=9^9) only[go_sem]
   try simp (maxSteps:=9^9) only[go_sem,hd,hA,hB]
   repeat refine AI ?_
   refine cw hob ?_
   try simp (maxSteps:=9^9) only[go_sem]
   repeat refine AI ?_
   refine cw hcn ?_
   try simp (maxSteps:=9^9) only[go_sem]
  ·rw [capR_none (by unfold small; omega)]
   rw [<-e1] at hA
   refine fe Tryz.func176 Tryz.ntmps176 Tryz.results176 fun hwf=>?_
   try simp (maxSteps:=9^9) only[go_sem]
   repeat refine AI ?_
   refine cw (isOne_fn n) ?_
   try simp (maxSteps:=9^9) only[go_sem]
   try simp (maxSteps:=9^9) only[go_sem,hd,hA]
  ·rw [capR_none (by unfold small; omega)]
   rw [<-e1] at hA; rw [<-e2] at hB
   refine fe Tryz.func176 Tryz.ntmps176 Tryz.results176 fun hwf=>?_
   try simp (maxSteps:=9^9) only[go_sem]
   repeat refine AI ?_
   refine cw (isOne_fn n) ?_
   try simp (maxSteps:=9^9) only[go_sem]
   try simp (maxSteps:=9^9) only[go_sem,hd,hA,hB]
 ·rcases hend with hs|hA|⟨hA,hB⟩
  ·rw [capR_data hs,m3]
   have hA:¬ (24:Int) < nl q.num.natAbs:=by have:=hs.1; omega
   have hB:¬ (24:Int) < nl q.den:=by have:=hs.2; omega
   have hob:=hob hs
   rw [<-e1] at hA hob; rw [<-e2] at hB hcn; rw [<-e1,<-e2]
   refine fe Tryz.func176 Tryz.ntmps176 Tryz.results176 fun hwf=>?_
   try simp (maxSteps:=9^9) only[go_sem]
   repeat refine AI ?_
   refine cw (isOne_fn n) ?_
   try simp (maxSteps:=9^9) only[go_sem]
   try simp (maxSteps:=9^9) only[go_sem,hd]
   repeat refine AI ?_
   refine cw (natGcd_fn z.natAbs n (by omega) (by omega)) ?_
   try simp (maxSteps:=9^9) only[go_sem]
   repeat refine AI ?_
   refine cw (isOne_fn (Nat.gcd z.natAbs n)) ?_
   try simp (maxSteps:=9^9) only[go_sem]
   try simp (maxSteps:=9^9) only[go_sem,hd2,hA,hB]
   repeat refine AI ?_
   refine cw hob ?_
   try simp (maxSteps:=9^9) only[go_sem]
   repeat refine AI ?_
   refine cw hcn ?_
   try simp (maxSteps:=9^9) only[go_sem]
  ·rw [capR_none (by unfold small; omega)]
   rw [<-e1] at hA
   refine fe Tryz.func176 Tryz.ntmps176 Tryz.results176 fun hwf=>?_
   try simp (maxSteps:=9^9) only[go_sem]
   repeat refine AI ?_
   refine cw (isOne_fn n) ?_
   try simp (maxSteps:=9^9) only[go_sem]
   try simp (maxSteps:=9^9) only[go_sem,hd]
   repeat refine AI ?_
   refine cw (natGcd_fn z.natAbs n (by omega) (by omega)) ?_
   try simp (maxSteps:=9^9) only[go_sem]
   repeat refine AI ?_
   refine cw (isOne_fn (Nat.gcd z.natAbs n)) ?_
   try simp (maxSteps:=9^9) only[go_sem]
   try simp (maxSteps:=9^9) only[go_sem,hd2,hA]
  ·rw [capR_none (by unfold small; omega)]
   rw [<-e1] at hA; rw [<-e2] at hB
   refine fe Tryz.func176 Tryz.ntmps176 Tryz.results176 fun hwf=>?_
   try simp (maxSteps:=9^9) only[go_sem]
   repeat refine AI ?_
   refine cw (isOne_fn n) ?_
   try simp (maxSteps:=9^9) only[go_sem]
   try simp (maxSteps:=9^9) only[go_sem,hd]
   repeat refine AI ?_
   refine cw (natGcd_fn z.natAbs n (by omega) (by omega)) ?_
   try simp (maxSteps:=9^9) only[go_sem]
   repeat refine AI ?_
   refine cw (isOne_fn (Nat.gcd z.natAbs n)) ?_
   try simp (maxSteps:=9^9) only[go_sem]
   try simp (maxSteps:=9^9) only[go_sem,hd2,hA,hB]
 ·rcases hend with hs|hA|⟨hA,hB⟩
  ·rw [capR_data hs,m3]
   have hA:¬ (24:Int) < nl q.num.natAbs:=by have:=hs.1; omega
   have hB:¬ (24:Int) < nl q.den:=by have:=hs.2; omega
   have hob:=hob hs
   refine fe Tryz.func176 Tryz.ntmps176 Tryz.results176 fun hwf=>?_
   try simp (maxSteps:=9^9) only[go_sem]
   repeat refine AI ?_
   refine cw (isOne_fn n) ?_
   try simp (maxSteps:=9^9) only[go_sem]
   try simp (maxSteps:=9^9) only[go_sem,hd]
   repeat refine AI ?_
   refine cw (natGcd_fn z.natAbs n (by omega) (by omega)) ?_
   try simp (maxSteps:=9^9) only[go_sem]
   repeat refine AI ?_
   refine cw (isOne_fn (Nat.gcd z.natAbs n)) ?_
   try simp (maxSteps:=9^9) only[go_sem]
   try simp (maxSteps:=9^9) only[go_sem,hd2]
   have c1:=natDiv_fn z.natAbs (Nat.gcd z.natAbs n) hg0 (by omega) (by omega)
   rw [<-m1] at c1
   repeat refine AI ?_
   refine cw c1 ?_
   try simp (maxSteps:=9^9) only[go_sem]
   have c2:=natDiv_fn n (Nat.gcd z.natAbs n) hg0 (by omega) (by omega)
   rw [<-m2] at c2
   repeat refine AI ?_
   refine cw c2 ?_
   try simp (maxSteps:=9^9) only[go_sem]
   try simp (maxSteps:=9^9) only[go_sem,hA,hB]
   repeat refine AI ?_
   refine cw hob ?_
   try simp (maxSteps:=9^9) only[go_sem]
   repeat refine AI ?_
   refine cw hcn ?_
   try simp (maxSteps:=9^9) only[go_sem]
  ·rw [capR_none (by unfold small; omega)]
   refine fe Tryz.func176 Tryz.ntmps176 Tryz.results176 fun hwf=>?_
   try simp (maxSteps:=9^9) only[go_sem]
   repeat refine AI ?_
   refine cw (isOne_fn n) ?_
   try simp (maxSteps:=9^9) only[go_sem]
   try simp (maxSteps:=9^9) only[go_sem,hd]
   repeat refine AI ?_
   refine cw (natGcd_fn z.natAbs n (by omega) (by omega)) ?_
   try simp (maxSteps:=9^9) only[go_sem]
   repeat refine AI ?_
   refine cw (isOne_fn (Nat.gcd z.natAbs n)) ?_
   try simp (maxSteps:=9^9) only[go_sem]
   try simp (maxSteps:=9^9) only[go_sem,hd2]
   have c1:=natDiv_fn z.natAbs (Nat.gcd z.natAbs n) hg0 (by omega) (by omega)
   rw [<-m1] at c1
   repeat refine AI ?_
   refine cw c1 ?_
   try simp (maxSteps:=9^9) only[go_sem]
   have c2:=natDiv_fn n (Nat.gcd z.natAbs n) hg0 (by omega) (by omega)
   rw [<-m2] at c2
   repeat refine AI ?_
   refine cw c2 ?_
   try simp (maxSteps:=9^9) only[go_sem]
   try simp (maxSteps:=9^9) only[go_sem,hA]
  ·rw [capR_none (by unfold small; omega)]
   refine fe Tryz.func176 Tryz.ntmps176 Tryz.results176 fun hwf=>?_
   try simp (maxSteps:=9^9) only[go_sem]
   repeat refine AI ?_
   refine cw (isOne_fn n) ?_
   try simp (maxSteps:=9^9) only[go_sem]
   try simp (maxSteps:=9^9) only[go_sem,hd]
   repeat refine AI ?_
   refine cw (natGcd_fn z.natAbs n (by omega) (by omega)) ?_
   try simp (maxSteps:=9^9) only[go_sem]
   repeat refine AI ?_
   refine cw (isOne_fn (Nat.gcd z.natAbs n)) ?_
   try simp (maxSteps:=9^9) only[go_sem]
   try simp (maxSteps:=9^9) only[go_sem,hd2]
   have c1:=natDiv_fn z.natAbs (Nat.gcd z.natAbs n) hg0 (by omega) (by omega)
   rw [<-m1] at c1
   repeat refine AI ?_
   refine cw c1 ?_
   try simp (maxSteps:=9^9) only[go_sem]
   have c2:=natDiv_fn n (Nat.gcd z.natAbs n) hg0 (by omega) (by omega)
   rw [<-m2] at c2
   repeat refine AI ?_
   refine cw c2 ?_
   try simp (maxSteps:=9^9) only[go_sem]
   try simp (maxSteps:=9^9) only[go_sem,hA,hB]
theorem sgn_abs (s:Bool) (a:Nat):(sgn s a).natAbs=a:=by unfold sgn; split<;>omega
attribute [go_sem] Option.isSome_none bigD_nat
theorem isGood_n:Fn Tryz.prog 121 [⟨tRat,((false,[]),[])⟩] false [⟨.bool,false⟩]:=isGood_fn none
theorem isGood_s (q:Rat):Fn Tryz.prog 121 [⟨tRat,ratD q⟩] false [⟨.bool,true⟩]:=isGood_fn (some q)
theorem ratCmp_fn (x y:Option Rat) (hx:okO x) (hy:okO y):Fn Tryz.prog 88 [⟨tRat,oD x⟩,⟨tRat,oD y⟩] false [⟨.int,cmpO x y⟩]:=by
 cases x with
 | none =>
  refine fe Tryz.func88 Tryz.ntmps88 Tryz.results88 fun hwf=>?_
  try simp (maxSteps:=9^9) only[go_sem]
  repeat refine AI ?_
  refine cw isGood_n ?_
  try simp (maxSteps:=9^9) only[go_sem]
  rfl
 | some p =>
  cases y with
  | none =>
   refine fe Tryz.func88 Tryz.ntmps88 Tryz.results88 fun hwf=>?_
   try simp (maxSteps:=9^9) only[go_sem]
   repeat refine AI ?_
   refine cw (isGood_s p) ?_
   try simp (maxSteps:=9^9) only[go_sem]
   repeat refine AI ?_
   refine cw isGood_n ?_
   try simp (maxSteps:=9^9) only[go_sem]
   rfl
  | some q =>
   obtain ⟨p1,p2⟩:=hx p rfl
   obtain ⟨q1,q2⟩:=hy q rfl
   refine fe Tryz.func88 Tryz.ntmps88 Tryz.results88 fun hwf=>?_
   try simp (maxSteps:=9^9) only[go_sem]
   repeat refine AI ?_
   refine cw (isGood_s p) ?_
   try simp (maxSteps:=9^9) only[go_sem]
   repeat refine AI ?_
   refine cw (isGood_s q) ?_
   try simp (maxSteps:=9^9) only[go_sem]
   repeat refine AI ?_
   refine cw (bigMulN_fn p.num q.den (by omega) (by omega)) ?_
   try simp (maxSteps:=9^9) only[go_sem]
   repeat refine AI ?_
   refine cw (bigMulN_fn q.num p.den (by omega) (by omega)) ?_
   try simp (maxSteps:=9^9) only[go_sem]
   repeat refine AI ?_
   refine cw (bigCmp_fn (p.num * q.den) (q.num * p.den)) ?_
   try simp (maxSteps:=9^9) only[go_sem]
   repeat refine AI ?_
   exact (cmpQ_eq p q).symm
theorem nl_mulZ (a:Int) (n:Nat):nl (a * (n:Int)).natAbs<=nl a.natAbs+nl n:=by
 rw [Int.natAbs_mul,Int.natAbs_natCast]; exact nl_mul _ _
theorem nl_addZ (a b:Int):nl (a+b).natAbs<=max (nl a.natAbs) (nl b.natAbs)+1:=Nat.le_trans (nl_mono (Int.natAbs_add_le a b)) (nl_add _ _)
theorem nl_mulI (a b:Int):nl (a * b).natAbs<=nl a.natAbs+nl b.natAbs:=by
 rw [Int.natAbs_mul]; exact nl_mul _ _
theorem den_mul_ne (p q:Rat):p.den * q.den ≠ 0:=Nat.mul_ne_zero p.den_nz q.den_nz
theorem ratAdd_fn (x y:Option Rat) (hx:okO x) (hy:okO y):Fn Tryz.prog 136 [⟨tRat,oD x⟩,⟨tRat,oD y⟩] true [⟨tRat,oD (addO x y)⟩]:=by
 cases x with
 | none =>
  refine fe Tryz.func136 Tryz.ntmps136 Tryz.results136 fun hwf=>?_
  try simp (maxSteps:=9^9) only[go_sem]
  repeat refine AI ?_
  refine cw isGood_n ?_
  try simp (maxSteps:=9^9) only[go_sem]
  try simp (maxSteps:=9^9) only[go_sem,addO]
 | some p =>
  cases y with
  | none =>
   refine fe Tryz.func136 Tryz.ntmps136 Tryz.results136 fun hwf=>?_
   try simp (maxSteps:=9^9) only[go_sem]
   repeat refine AI ?_
   refine cw (isGood_s p) ?_
   try simp (maxSteps:=9^9) only[go_sem]
   repeat refine AI ?_
   refine cw isGood_n ?_
   try simp (maxSteps:=9^9) only[go_sem]
   try simp (maxSteps:=9^9) only[go_sem,addO]
  | some q =>
   obtain ⟨p1,p2⟩:=hx p rfl
   obtain ⟨q1,q2⟩:=hy q rfl
   have b1:=nl_mulZ p.num q.den
   have b2:=nl_mulZ q.num p.den
   have b3:=nl_addZ (p.num * q.den) (q.num * p.den)
   have b4:=nl_mul p.den q.den
   have hm:=ratMake_end (p.num * q.den+q.num * p.den) (p.den * q.den) (den_mul_ne p q) (by omega) (by omega)
   rw [<-add_mk] at hm
   have e:addO (some p) (some q)=capR (p+q):=rfl
   rw [e]
   refine fe Tryz.func136 Tryz.ntmps136 Tryz.results136 fun hwf=>?_
   try simp (maxSteps:=9^9) only[go_sem]
   repeat refine AI ?_
   refine cw (isGood_s p) ?_
   try simp (maxSteps:=9^9) only[go_sem]
   repeat refine AI ?_
   refine cw (isGood_s q) ?_
   try simp (maxSteps:=9^9) only[go_sem]
   repeat refine AI ?_
   refine cw (bigMulN_fn p.num q.den (by omega) (by omega)) ?_
   try simp (maxSteps:=9^9) only[go_sem]
   repeat refine AI ?_
   refine cw (bigMulN_fn q.num p.den (by omega) (by omega)) ?_
   try simp (maxSteps:=9^9) only[go_sem]
   repeat refine AI ?_
   refine cw (bigAdd_fn (p.num * q.den) (q.num * p.den) (by omega) (by omega)) ?_
   try simp (maxSteps:=9^9) only[go_sem]
   repeat refine AI ?_
   refine cw (natMul_fn p.den q.den (by omega) (by omega)) ?_
   try simp (maxSteps:=9^9) only[go_sem]
   repeat refine AI ?_
   refine cw hm ?_
   try simp (maxSteps:=9^9) only[go_sem]
   all_goals repeat refine AI ?_
   all_goals first|kernel_rfl|omega|rfl
theorem ratNeg_fn (x:Option Rat):Fn Tryz.prog 174 [⟨tRat,oD x⟩] false [⟨tRat,oD (negO x)⟩]:=by
 cases x with
 | none =>
  have hb:=bigNeg_fn 0
  rw [Int.neg_zero,bigD_zero] at hb
  refine fe Tryz.func174 Tryz.ntmps174 Tryz.results174 fun hwf=>?_
  try simp (maxSteps:=9^9) only[go_sem]
  repeat refine AI ?_
  refine cw hb ?_
  try simp (maxSteps:=9^9) only[go_sem]
  try simp (maxSteps:=9^9) only[go_sem,negO]
  all_goals repeat refine AI ?_
  all_goals first|kernel_rfl|omega|rfl
 | some p =>
  refine fe Tryz.func174 Tryz.ntmps174 Tryz.results174 fun hwf=>?_
  try simp (maxSteps:=9^9) only[go_sem]
  repeat refine AI ?_
  refine cw (bigNeg_fn p.num) ?_
  try simp (maxSteps:=9^9) only[go_sem]
  try simp (maxSteps:=9^9) only[go_sem,negO,Rat.neg_num,Rat.neg_den]
  all_goals repeat refine AI ?_
  all_goals first|kernel_rfl|omega|rfl
theorem ratSub_fn (x y:Option Rat) (hx:okO x) (hy:okO y):Fn Tryz.prog 131 [⟨tRat,oD x⟩,⟨tRat,oD y⟩] true [⟨tRat,oD (subO x y)⟩]:=by
 show Fn _ _ _ _ [⟨tRat,oD (addO x (negO y))⟩]
 have h1:=ratNeg_fn y
 have h2:=ratAdd_fn x (negO y) hx (okO_neg hy)
 refine fe Tryz.func131 Tryz.ntmps131 Tryz.results131 fun hwf=>?_
 try simp (maxSteps:=9^9) only[go_sem]
 repeat refine AI ?_
 refine cw h1 ?_
 try simp (maxSteps:=9^9) only[go_sem]
 repeat refine AI ?_
 refine cw h2 ?_
 try simp (maxSteps:=9^9) only[go_sem]
 all_goals repeat refine AI ?_
 all_goals first|kernel_rfl|omega|rfl
theorem cmpQ_zero (p:Rat):cmpQ p 0=cmpZ p.num 0:=by
 rw [cmpQ_eq]
 simp
theorem ratSign_fn (x:Option Rat):Fn Tryz.prog 233 [⟨tRat,oD x⟩] false [⟨.int,sgnO x⟩]:=by
 cases x with
 | none =>
  refine fe Tryz.func233 Tryz.ntmps233 Tryz.results233 fun hwf=>?_
  try simp (maxSteps:=9^9) only[go_sem]
  repeat refine AI ?_
  refine cw isGood_n ?_
  try simp (maxSteps:=9^9) only[go_sem]
  try simp (maxSteps:=9^9) only[go_sem,sgnO]
 | some p =>
  have e:sgnO (some p)=cmpZ p.num 0:=cmpQ_zero p
  rw [e]
  by_cases h0:(nl p.num.natAbs:Int)=0
  ·have:p.num=0:=by have:=nl_eq_zero.1 (show nl p.num.natAbs=0 by omega); omega
   refine fe Tryz.func233 Tryz.ntmps233 Tryz.results233 fun hwf=>?_
   try simp (maxSteps:=9^9) only[go_sem]
   repeat refine AI ?_
   refine cw (isGood_s p) ?_
   try simp (maxSteps:=9^9) only[go_sem]
   try simp (maxSteps:=9^9) only[go_sem,h0]
   simp [cmpZ,this]
  ·have h1:p.num ≠ 0:=fun h=>h0 (by rw [h]; simp [nl_zero])
   by_cases h2:p.num < 0
   ·refine fe Tryz.func233 Tryz.ntmps233 Tryz.results233 fun hwf=>?_
    try simp (maxSteps:=9^9) only[go_sem]
    repeat refine AI ?_
    refine cw (isGood_s p) ?_
    try simp (maxSteps:=9^9) only[go_sem]
    try simp (maxSteps:=9^9) only[go_sem,h0,h2]
    simp [cmpZ,h2]
   ·have h3:0 < p.num:=by omega
    refine fe Tryz.func233 Tryz.ntmps233 Tryz.results233 fun hwf=>?_
    try simp (maxSteps:=9^9) only[go_sem]
    repeat refine AI ?_
    refine cw (isGood_s p) ?_
    try simp (maxSteps:=9^9) only[go_sem]
    try simp (maxSteps:=9^9) only[go_sem,h0,h2]
    simp [cmpZ,h2,h3]
noncomputable def maxO:Option Rat->Option Rat->Option Rat
 | some p,some q=>if 0<=cmpQ p q then some p else some q
 | _,_=>none
noncomputable def minO:Option Rat->Option Rat->Option Rat
 | some p,some q=>if cmpQ p q<=0 then some p else some q
 | _,_=>none
theorem okO_max {x y:Option Rat} (hx:okO x) (hy:okO y):okO (maxO x y):=by
 unfold maxO
 split
 ·split
  ·exact hx
  ·exact hy
 ·exact okO_none
theorem okO_min {x y:Option Rat} (hx:okO x) (hy:okO y):okO (minO x y):=by
 unfold minO
 split
 ·split
  ·exact hx
  ·exact hy
 ·exact okO_none
theorem ratMax_fn (x y:Option Rat) (hx:okO x) (hy:okO y):Fn Tryz.prog 102 [⟨tRat,oD x⟩,⟨tRat,oD y⟩] false [⟨tRat,oD (maxO x y)⟩]:=by
 cases x with
 | none =>
  refine fe Tryz.func102 Tryz.ntmps102 Tryz.results102 fun hwf=>?_
  try simp (maxSteps:=9^9) only[go_sem]
  repeat refine AI ?_
  refine cw isGood_n ?_
  try simp (maxSteps:=9^9) only[go_sem]
  try simp (maxSteps:=9^9) only[go_sem,maxO]
 | some p =>
  cases y with
  | none =>
   refine fe Tryz.func102 Tryz.ntmps102 Tryz.results102 fun hwf=>?_
   try simp (maxSteps:=9^9) only[go_sem]
   repeat refine AI ?_
   refine cw (isGood_s p) ?_
   try simp (maxSteps:=9^9) only[go_sem]
   repeat refine AI ?_
   refine cw isGood_n ?_
   try simp (maxSteps:=9^9) only[go_sem]
   try simp (maxSteps:=9^9) only[go_sem,maxO]
  | some q =>
   have hc:=ratCmp_fn (some p) (some q) hx hy
   have e:cmpO (some p) (some q)=cmpQ p q:=rfl
   rw [e] at hc
   by_cases h:0<=cmpQ p q
   ·have e2:maxO (some p) (some q)=some p:=if_pos h
    rw [e2]
    refine fe Tryz.func102 Tryz.ntmps102 Tryz.results102 fun hwf=>?_
    try simp (maxSteps:=9^9) only[go_sem]
    repeat refine AI ?_
    refine cw (isGood_s p) ?_
    try simp (maxSteps:=9^9) only[go_sem]
    repeat refine AI ?_
    refine cw (isGood_s q) ?_
    try simp (maxSteps:=9^9) only[go_sem]
    repeat refine AI ?_
    refine cw hc ?_
    try simp (maxSteps:=9^9) only[go_sem]
    try simp (maxSteps:=9^9) only[go_sem,h]
   ·have e2:maxO (some p) (some q)=some q:=if_neg h
    rw [e2]
    refine fe Tryz.func102 Tryz.ntmps102 Tryz.results102 fun hwf=>?_
    try simp (maxSteps:=9^9) only[go_sem]
    repeat refine AI ?_
    refine cw (isGood_s p) ?_
    try simp (maxSteps:=9^9) only[go_sem]
    repeat refine AI ?_
    refine cw (isGood_s q) ?_
    try simp (maxSteps:=9^9) only[go_sem]
    repeat refine AI ?_
    refine cw hc ?_
    try simp (maxSteps:=9^9) only[go_sem]
    try simp (maxSteps:=9^9) only[go_sem,h]
theorem ownRat_fn (r:DR) (h1:r.1.2.length<=16777216) (h2:r.2.length<=16777216):Fn Tryz.prog 66 [⟨tRat,r⟩] true [⟨tRat,r⟩]:=by
 obtain ⟨⟨s,a⟩,d⟩:=r
 refine fe Tryz.func66 Tryz.ntmps66 Tryz.results66 fun hwf=>?_
 try simp (maxSteps:=9^9) only[go_sem]
 repeat refine AI ?_
 refine cw (clone_fn a h1) ?_
 try simp (maxSteps:=9^9) only[go_sem]
 repeat refine AI ?_
 refine cw (clone_fn d h2) ?_
 try simp (maxSteps:=9^9) only[go_sem]
 all_goals repeat refine AI ?_
 all_goals first|kernel_rfl|omega|rfl
theorem ownO_fn (x:Option Rat) (hx:okO x):Fn Tryz.prog 66 [⟨tRat,oD x⟩] true [⟨tRat,oD x⟩]:=by
 refine ownRat_fn _ ?_ ?_
 ·cases x with
  | none=>exact Nat.zero_le _
  | some q=>have:=(hx q rfl).1; show nl q.num.natAbs<=_; omega
 ·cases x with
  | none=>exact Nat.zero_le _
  | some q=>have:=(hx q rfl).2; show nl q.den<=_; omega
theorem natL_1:natL 1=[1]:=natL_one (by decide) (by decide)
theorem indexFunc_rat_fn (F:FuncId) (p:DR->Bool) (hF:∀ x:DR,Fn Tryz.prog F [⟨tRat,x⟩] false [⟨.bool,p x⟩]) (l:List DR):Fn Tryz.prog 271 [⟨.slice tRat,l⟩,⟨.cst (.fn F),()⟩] false [⟨.int,ixf (t:=tRat) p l⟩]:=by
 refine fe Tryz.func271 Tryz.ntmps271 Tryz.results271 fun hwf=>?_
 have hl:l.length<=9223372036854775807:=(hwf ⟨.slice tRat,l⟩ (by simp)).1
 try simp (maxSteps:=9^9) only[go_sem]
 refine LoopG.intro _ _ _ (fun i:Nat=>⟨[(0,.sl tRat l),(1,.sc (.func (.func F) #[] #[])),(7,.sc (.int .i64 l.length)),(8,.sc (.int .i64 i))],[]⟩) (fun i=>∀ j < i,j < l.length->p (nth (t:=tRat) l j)=false) (fun i=>l.length - i) 0 ?_ (fun j h=>by simp at h) ?_
 ·exact WK
 ·rintro i h2
  try simp (maxSteps:=9^9) only[go_sem]
  refine CondW_dec (fun h3=>?_) (fun h3=>?_)
  ·try simp (maxSteps:=9^9) only[go_sem]
   repeat refine AI ?_
   repeat refine AI ?_
   refine cw (hF (nth (t:=tRat) l i)) ?_
   try simp (maxSteps:=9^9) only[go_sem]
   refine CondW_b (fun h4=>?_) (fun h4=>?_)
   ·try simp (maxSteps:=9^9) only[go_sem]
    exact (ixf_at (by omega) h4 (fun j hj=>h2 j hj (by omega))).symm
   ·try simp (maxSteps:=9^9) only[go_sem]
    repeat refine AI ?_
    refine LoopK.mk (i+1) ?_ (fun j hj hl=>?_) (by omega)
    ·exact WK
    ·by_cases hj2:j < i
     ·exact h2 j hj2 hl
     ·rw [show j=i by omega]; exact h4
  ·try simp (maxSteps:=9^9) only[go_sem]
   exact (ixf_none fun j hj=>h2 j (by omega) hj).symm
theorem containsFunc_rat_fn (F:FuncId) (p:DR->Bool) (hF:∀ x:DR,Fn Tryz.prog F [⟨tRat,x⟩] false [⟨.bool,p x⟩]) (l:List DR):Fn Tryz.prog 266 [⟨.slice tRat,l⟩,⟨.cst (.fn F),()⟩] false [⟨.bool,l.any p⟩]:=by
 refine fe Tryz.func266 Tryz.ntmps266 Tryz.results266 fun hwf=>?_
 try simp (maxSteps:=9^9) only[go_sem]
 repeat refine AI ?_
 refine cw (indexFunc_rat_fn F p hF l) ?_
 try simp (maxSteps:=9^9) only[go_sem]
 exact ixf_any
theorem allRatsC_fn (r:DR):Fn Tryz.prog 267 [⟨tRat,r⟩] false [⟨.bool,!okR r⟩]:=by
 refine fe Tryz.func267 Tryz.ntmps267 Tryz.results267 fun hwf=>?_
 try simp (maxSteps:=9^9) only[go_sem]
 repeat refine AI ?_
 refine cw (implRatOk_fn r) ?_
 try simp (maxSteps:=9^9) only[go_sem]
theorem allRats_fn (l:List DR):Fn Tryz.prog 256 [⟨.slice tRat,l⟩] false [⟨.bool,!(l.any fun r=>!okR r)⟩]:=by
 refine fe Tryz.func256 Tryz.ntmps256 Tryz.results256 fun hwf=>?_
 try simp (maxSteps:=9^9) only[go_sem]
 repeat refine AI ?_
 refine cw (containsFunc_rat_fn _ _ allRatsC_fn l) ?_
 try simp (maxSteps:=9^9) only[go_sem]
theorem okR_oD {r:DR} (h:okR r=true):oD (rdO r)=r:=by
 obtain ⟨q,_,e1,e2⟩:=okR_t h
 rw [e2,e1]; rfl
attribute [go_sem] Prod.eta
abbrev DP:Type:=DR × DR
noncomputable def okPt (p:DP):Bool:=okR p.1 && okR p.2
theorem implIsValidPoint_fn (p:DP):Fn Tryz.prog 161 [⟨tPoint,p⟩] false [⟨.bool,okPt p⟩]:=by
 cases h:okR p.1
 ·refine fe Tryz.func161 Tryz.ntmps161 Tryz.results161 fun hwf=>?_
  try simp (maxSteps:=9^9) only[go_sem]
  repeat refine AI ?_
  refine cw (implRatOk_fn p.1) ?_
  try simp (maxSteps:=9^9) only[go_sem]
  try simp (maxSteps:=9^9) only[go_sem,h]
  repeat refine AI ?_
  simp [okPt,h]
 ·refine fe Tryz.func161 Tryz.ntmps161 Tryz.results161 fun hwf=>?_
  try simp (maxSteps:=9^9) only[go_sem]
  repeat refine AI ?_
  refine cw (implRatOk_fn p.1) ?_
  try simp (maxSteps:=9^9) only[go_sem]
  try simp (maxSteps:=9^9) only[go_sem,h]
  repeat refine AI ?_
  refine cw (implRatOk_fn p.2) ?_
  try simp (maxSteps:=9^9) only[go_sem]
  repeat refine AI ?_
  simp [okPt,h]
theorem indexFunc_pt_fn (F:FuncId) (p:DP->Bool) (hF:∀ x:DP,Fn Tryz.prog F [⟨tPoint,x⟩] false [⟨.bool,p x⟩]) (l:List DP):Fn Tryz.prog 195 [⟨.slice tPoint,l⟩,⟨.cst (.fn F),()⟩] false [⟨.int,ixf (t:=tPoint) p l⟩]:=by
 refine fe Tryz.func195 Tryz.ntmps195 Tryz.results195 fun hwf=>?_
 have hl:l.length<=9223372036854775807:=(hwf ⟨.slice tPoint,l⟩ (by simp)).1
 try simp (maxSteps:=9^9) only[go_sem]
 refine LoopG.intro _ _ _ (fun i:Nat=>⟨[(0,.sl tPoint l),(1,.sc (.func (.func F) #[] #[])),(7,.sc (.int .i64 l.length)),(8,.sc (.int .i64 i))],[]⟩) (fun i=>∀ j < i,j < l.length->p (nth (t:=tPoint) l j)=false) (fun i=>l.length - i) 0 ?_ (fun j h=>by simp at h) ?_
 ·exact WK
 ·rintro i h2
  try simp (maxSteps:=9^9) only[go_sem]
  refine CondW_dec (fun h3=>?_) (fun h3=>?_)
  ·try simp (maxSteps:=9^9) only[go_sem]
   repeat refine AI ?_
   repeat refine AI ?_
   refine cw (hF (nth (t:=tPoint) l i)) ?_
   try simp (maxSteps:=9^9) only[go_sem]
   refine CondW_b (fun h4=>?_) (fun h4=>?_)
   ·try simp (maxSteps:=9^9) only[go_sem]
    exact (ixf_at (by omega) h4 (fun j hj=>h2 j hj (by omega))).symm
   ·try simp (maxSteps:=9^9) only[go_sem]
    repeat refine AI ?_
    refine LoopK.mk (i+1) ?_ (fun j hj hl=>?_) (by omega)
    ·exact WK
    ·by_cases hj2:j < i
     ·exact h2 j hj2 hl
     ·rw [show j=i by omega]; exact h4
  ·try simp (maxSteps:=9^9) only[go_sem]
   exact (ixf_none fun j hj=>h2 j (by omega) hj).symm
theorem containsFunc_pt_fn (F:FuncId) (p:DP->Bool) (hF:∀ x:DP,Fn Tryz.prog F [⟨tPoint,x⟩] false [⟨.bool,p x⟩]) (l:List DP):Fn Tryz.prog 159 [⟨.slice tPoint,l⟩,⟨.cst (.fn F),()⟩] false [⟨.bool,l.any p⟩]:=by
 refine fe Tryz.func159 Tryz.ntmps159 Tryz.results159 fun hwf=>?_
 try simp (maxSteps:=9^9) only[go_sem]
 repeat refine AI ?_
 refine cw (indexFunc_pt_fn F p hF l) ?_
 try simp (maxSteps:=9^9) only[go_sem]
 exact ixf_any
theorem arePointsC_fn (p:DP):Fn Tryz.prog 160 [⟨tPoint,p⟩] false [⟨.bool,!okPt p⟩]:=by
 refine fe Tryz.func160 Tryz.ntmps160 Tryz.results160 fun hwf=>?_
 try simp (maxSteps:=9^9) only[go_sem]
 repeat refine AI ?_
 refine cw (implIsValidPoint_fn p) ?_
 try simp (maxSteps:=9^9) only[go_sem]
theorem arePoints_fn (l:List DP):Fn Tryz.prog 119 [⟨.slice tPoint,l⟩] false [⟨.bool,!(l.any fun p=>!okPt p)⟩]:=by
 refine fe Tryz.func119 Tryz.ntmps119 Tryz.results119 fun hwf=>?_
 try simp (maxSteps:=9^9) only[go_sem]
 repeat refine AI ?_
 refine cw (containsFunc_pt_fn _ _ arePointsC_fn l) ?_
 try simp (maxSteps:=9^9) only[go_sem]
theorem arePoints1_fn (p:DP):Fn Tryz.prog 119 [⟨.slice tPoint,[p]⟩] false [⟨.bool,okPt p⟩]:=by
 have h:=arePoints_fn [p]
 have e:(!([p].any fun p=>!okPt p))=okPt p:=by simp
 rw [e] at h; exact h
theorem isHeading_fn (n:Int):Fn Tryz.prog 44 [⟨.int,n⟩] false [⟨.bool,decide (0<=n/\n<=3)⟩]:=by
 refine fe Tryz.func44 Tryz.ntmps44 Tryz.results44 fun hwf=>?_
 try simp (maxSteps:=9^9) only[go_sem]
 repeat refine AI ?_
 refine cw (within_fn n 0 3) ?_
 try simp (maxSteps:=9^9) only[go_sem]
theorem bigOf_fn (n:Int):Fn Tryz.prog 125 [⟨.int,n⟩] true [⟨tBig,bigD n⟩]:=by
 by_cases h0:0<=n
 ·have hn:¬ n < 0:=by omega
  have e:n.natAbs=n.toNat:=by omega
  refine fe Tryz.func125 Tryz.ntmps125 Tryz.results125 fun hwf=>?_
  try simp (maxSteps:=9^9) only[go_sem,h0,hn]
  repeat refine AI ?_
  refine cw (implNatOf_fn n) ?_
  try simp (maxSteps:=9^9) only[go_sem]
  rw [e]
  all_goals repeat refine AI ?_
  all_goals first|kernel_rfl|omega|rfl
 ·by_cases h1:n=-9223372036854775808
  ·subst h1
   have e:natL 9223372036854775807=natL (9223372036854775807:Int).toNat:=rfl
   have ha:=natAdd_fn (9223372036854775807:Int).toNat (1:Int).toNat (Nat.le_trans (natL_len3 (n:=9223372036854775807) (by decide)) (by decide)) (Nat.le_trans (nl_small (by decide)) (by decide))
   refine fe Tryz.func125 Tryz.ntmps125 Tryz.results125 fun hwf=>?_
   try simp (maxSteps:=9^9) only[go_sem]
   repeat refine AI ?_
   refine cw (implNatOf_fn 9223372036854775807) ?_
   try simp (maxSteps:=9^9) only[go_sem]
   repeat refine AI ?_
   refine cw (implNatOf_fn 1) ?_
   try simp (maxSteps:=9^9) only[go_sem]
   repeat refine AI ?_
   refine cw ha ?_
   try simp (maxSteps:=9^9) only[go_sem]
   all_goals repeat refine AI ?_
   all_goals first|kernel_rfl|omega|rfl
  ·have hn:n < 0:=by omega
   have e:n.natAbs=(-n).toNat:=by omega
   refine fe Tryz.func125 Tryz.ntmps125 Tryz.results125 fun hwf=>?_
   have hI:I64 n:=hwf ⟨.int,n⟩ (by simp)
   have hI1:=hI.1
   have hI2:=hI.2
   try simp (maxSteps:=9^9) only[go_sem,h0,h1]
   repeat refine AI ?_
   repeat refine AI ?_
   refine cw (implNatOf_fn (-n)) ?_
   try simp (maxSteps:=9^9) only[go_sem]
   rw [e]
   simp [hn]
def ratI (n:Int):DR:=(bigD n,[1])
theorem ratI_eq (n:Int):ratI n=ratD (n:Rat):=by
 rw [ratI,ratD,Rat.num_intCast,Rat.den_intCast,natL_1]
attribute [go_sem] ratI
theorem ratInt_fn (n:Int):Fn Tryz.prog 86 [⟨.int,n⟩] true [⟨tRat,ratI n⟩]:=by
 refine fe Tryz.func86 Tryz.ntmps86 Tryz.results86 fun hwf=>?_
 try simp (maxSteps:=9^9) only[go_sem]
 repeat refine AI ?_
 refine cw (bigOf_fn n) ?_
 try simp (maxSteps:=9^9) only[go_sem]
 all_goals repeat refine AI ?_
 all_goals first|kernel_rfl|omega|rfl
end Go.Proofs.YtcbionahcldlnaaGreat.DW

namespace Go.Proofs.YtcbionahcldlnaaGreat
open Go.RowKit
end Go.Proofs.YtcbionahcldlnaaGreat

namespace Go.Proofs.YtcbionahcldlnaaGreat.DW
open Go.RowKit
end Go.Proofs.YtcbionahcldlnaaGreat.DW

namespace Go.Proofs.YtcbionahcldlnaaGreat.DW
open Go.RowKit
theorem ratMul_fn (x y:Option Rat) (hx:okO x) (hy:okO y):Fn Tryz.prog 177 [⟨tRat,oD x⟩,⟨tRat,oD y⟩] true [⟨tRat,oD (mulO x y)⟩]:=by
 cases x with
 | none =>
  refine fe Tryz.func177 Tryz.ntmps177 Tryz.results177 fun hwf=>?_
  try simp (maxSteps:=9^9) only[go_sem]
  repeat refine AI ?_
  refine cw isGood_n ?_
  try simp (maxSteps:=9^9) only[go_sem]
  try simp (maxSteps:=9^9) only[go_sem,mulO]
 | some p =>
  cases y with
  | none =>
   refine fe Tryz.func177 Tryz.ntmps177 Tryz.results177 fun hwf=>?_
   try simp (maxSteps:=9^9) only[go_sem]
   repeat refine AI ?_
   refine cw (isGood_s p) ?_
   try simp (maxSteps:=9^9) only[go_sem]
   repeat refine AI ?_
   refine cw isGood_n ?_
   try simp (maxSteps:=9^9) only[go_sem]
   try simp (maxSteps:=9^9) only[go_sem,mulO]
  | some q =>
   obtain ⟨p1,p2⟩:=hx p rfl
   obtain ⟨q1,q2⟩:=hy q rfl
   have b1:=nl_mulI p.num q.num
   have b4:=nl_mul p.den q.den
   have hm:=ratMake_end (p.num * q.num) (p.den * q.den) (den_mul_ne p q) (by omega) (by omega)
   rw [<-mul_mk] at hm
   have e:mulO (some p) (some q)=capR (p * q):=rfl
   rw [e]
   refine fe Tryz.func177 Tryz.ntmps177 Tryz.results177 fun hwf=>?_
   try simp (maxSteps:=9^9) only[go_sem]
   repeat refine AI ?_
   refine cw (isGood_s p) ?_
   try simp (maxSteps:=9^9) only[go_sem]
   repeat refine AI ?_
   refine cw (isGood_s q) ?_
   try simp (maxSteps:=9^9) only[go_sem]
   repeat refine AI ?_
   refine cw (bigMul_fn p.num q.num (by omega) (by omega)) ?_
   try simp (maxSteps:=9^9) only[go_sem]
   repeat refine AI ?_
   refine cw (natMul_fn p.den q.den (by omega) (by omega)) ?_
   try simp (maxSteps:=9^9) only[go_sem]
   repeat refine AI ?_
   refine cw hm ?_
   try simp (maxSteps:=9^9) only[go_sem]
   all_goals repeat refine AI ?_
   all_goals first|kernel_rfl|omega|rfl
theorem ratMin_fn (x y:Option Rat) (hx:okO x) (hy:okO y):Fn Tryz.prog 101 [⟨tRat,oD x⟩,⟨tRat,oD y⟩] false [⟨tRat,oD (minO x y)⟩]:=by
 cases x with
 | none =>
  refine fe Tryz.func101 Tryz.ntmps101 Tryz.results101 fun hwf=>?_
  try simp (maxSteps:=9^9) only[go_sem]
  repeat refine AI ?_
  refine cw isGood_n ?_
  try simp (maxSteps:=9^9) only[go_sem]
  try simp (maxSteps:=9^9) only[go_sem,minO]
 | some p =>
  cases y with
  | none =>
   refine fe Tryz.func101 Tryz.ntmps101 Tryz.results101 fun hwf=>?_
   try simp (maxSteps:=9^9) only[go_sem]
   repeat refine AI ?_
   refine cw (isGood_s p) ?_
   try simp (maxSteps:=9^9) only[go_sem]
   repeat refine AI ?_
   refine cw isGood_n ?_
   try simp (maxSteps:=9^9) only[go_sem]
   try simp (maxSteps:=9^9) only[go_sem,minO]
  | some q =>
   have hc:=ratCmp_fn (some p) (some q) hx hy
   have e:cmpO (some p) (some q)=cmpQ p q:=rfl
   rw [e] at hc
   by_cases h:cmpQ p q<=0
   ·have e2:minO (some p) (some q)=some p:=if_pos h
    rw [e2]
    refine fe Tryz.func101 Tryz.ntmps101 Tryz.results101 fun hwf=>?_
    try simp (maxSteps:=9^9) only[go_sem]
    repeat refine AI ?_
    refine cw (isGood_s p) ?_
    try simp (maxSteps:=9^9) only[go_sem]
    repeat refine AI ?_
    refine cw (isGood_s q) ?_
    try simp (maxSteps:=9^9) only[go_sem]
    repeat refine AI ?_
    refine cw hc ?_
    try simp (maxSteps:=9^9) only[go_sem]
    try simp (maxSteps:=9^9) only[go_sem,h]
   ·have e2:minO (some p) (some q)=some q:=if_neg h
    rw [e2]
    refine fe Tryz.func101 Tryz.ntmps101 Tryz.results101 fun hwf=>?_
    try simp (maxSteps:=9^9) only[go_sem]
    repeat refine AI ?_
    refine cw (isGood_s p) ?_
    try simp (maxSteps:=9^9) only[go_sem]
    repeat refine AI ?_
    refine cw (isGood_s q) ?_
    try simp (maxSteps:=9^9) only[go_sem]
    repeat refine AI ?_
    refine cw hc ?_
    try simp (maxSteps:=9^9) only[go_sem]
    try simp (maxSteps:=9^9) only[go_sem,h]
section
variable {P:Program} {T:TypeId->Option Ty}
def RetG (T:TypeId->Option Ty) (rs:List ResultVar) (e:TypeId) (t:Ty) (l:List t.den) (σ:St):Prop :=
 match rs with
 | [r]=>∃ k ver,aRes T σ r=some (.row k ver)/\look σ.mem k=some (.row e t ver true l)
 | _=>False
theorem retG_ok (hT:TabOK P T) {fn:Func} {c:Cx} {σ:St} {Γ:Asg} {a:Act} {w:World} {e:TypeId} {t:Ty} {l:List t.den} (hs:Sim c σ Γ a w) (hx:∀ b,c.X b->¬ c.S b) (h:RetG T fn.results.toList e t l σ) :
  ∃ v,(results fn a.tmps).run P w=.ok v w/\∃ fps:List (List Nat),v.oneCell'=true/\GrowF t.rp c.base w e v l fps/\OwnFp c.base w fps.flatten/\∀ b ∈ fps.flatten,v.ownBlock ≠ some b:=by
 unfold RetG at h
 split at h
 ·rename_i r hr
  obtain ⟨k,ver,h1,h2⟩:=h
  obtain ⟨u,g1,g2⟩:=aRes_run (P:=P) hT hs h1 rfl
  obtain ⟨q1,B,hB,q2⟩:=g2
  rw [h2] at hB; injection hB with hB; subst hB
  obtain ⟨fps,hg,hf,hgd,hon⟩:=hs.mm k _ h2
  have hu:u=Γ.hd k:=q2.2 rfl
  have hfr:fn.results=#[r]:=toList1 hr
  refine ⟨u,?_,fps,q1,hu ▸ hg.up hx,(show OwnR c w fps.flatten from hf ▸ hon rfl).up hx,fun b hb he=>?_⟩
  ·rw [results_eq,hfr,List.mapM_toArray,map_eq_pure_bind,Sem.run_bind,Sem.run_bind]
   simp only [List.mapM_cons,List.mapM_nil,Sem.run_bind,g1,Result.andThen_ok,Sem.run_pure]
   simp
  ·exact (hgd b (hf ▸ hb)).2 ⟨k,_,h2,by show (Γ.hd k).ownBlock=some b; rw [<-hu]; exact he⟩
 ·exact h.elim
def KRG (T:TypeId->Option Ty) (rs:List ResultVar) (e:TypeId) (t:Ty) (l:List t.den) (ex:Exit) (σ:St):Prop :=
 match ex with
 | .normal|.ret=>RetG T rs e t l σ
 | _=>False
@[go_sem] theorem KRG_r {rs:List ResultVar} {e:TypeId} {t:Ty} {l:List t.den} {σ:St}:KRG T rs e t l .ret σ=RetG T rs e t l σ:=(rfl)
attribute [go_sem] RetG
theorem fnG_enter (hT:TabOK P T) (hmix:P.follows .mixedOrders=true) {f:FuncId} {fn:Func} {code:Code} {args:List Dat} {e:TypeId} {t:Ty} {l:List t.den} (hf:P.funcs[f]? = some fn) (hname:(fn.name == "runtime.NumGoroutine")=false) (hb:fn.body=some code) (n:Nat) (hn:fn.ntmps=n) (rs:List ResultVar) (hr:fn.results=rs.toArray) (hna:args.length<=n)
  (h:(∀ d ∈ args,Wf d.1 d.2)->AC P T n code (KRG T rs e t l) ⟨argTm 0 args,[]⟩):FnG P f args e t l:=by
 subst hn
 have h':(∀ d ∈ args,Wf d.1 d.2)->AC P T fn.ntmps code (fun e' σ=>match e' with
   | .normal|.ret=>RetG T fn.results.toList e t l σ
   | _=>False) ⟨argTm 0 args,[]⟩:=fun hwf=>by
  have:=h hwf
  have e:(KRG T rs e t l)=fun e' σ=>match e' with
    | .normal|.ret=>RetG T fn.results.toList e t l σ
    | _=>False:=by
   have hrl:fn.results.toList=rs:=by rw [hr]
   rw [hrl]; funext e' σ; cases e'<;>rfl
  rw [e] at this
  exact this
 have:=fn_gen (VQ:=fun b S w v=>∃ fps:List (List Nat),v.oneCell'=true/\GrowF t.rp b w e v l fps/\OwnFp b w fps.flatten/\∀ b ∈ fps.flatten,v.ownBlock ≠ some b) hT hmix hf hname hb hna (fun c σ Γ a w hs hx hq=>retG_ok (P:=P) hT hs hx hq) h'
 refine ⟨this.1,fun w vs S hg ha=>(this.2 w vs S hg ha).mono ?_⟩
 rintro e w' ⟨hb,v,he,fps,q1,q2,q3,q4⟩
 exact ⟨hb,v,fps,he,q1,q2,q3,q4⟩
def RetL (T:TypeId->Option Ty) (rs:List ResultVar) (e:TypeId) (t:Ty) (l:List t.den) (σ:St):Prop :=
 match rs with
 | [r]=>∃ k ver o,aRes T σ r=some (.row k ver)/\look σ.mem k=some (.row e t ver o l)
 | _=>False
theorem retL_ok (hT:TabOK P T) {fn:Func} {c:Cx} {σ:St} {Γ:Asg} {a:Act} {w:World} {e:TypeId} {t:Ty} {l:List t.den} (hs:Sim c σ Γ a w) (hx:∀ b,c.X b->¬ c.S b) (h:RetL T fn.results.toList e t l σ) :
  ∃ v,(results fn a.tmps).run P w=.ok v w/\∃ fps:List (List Nat),v.oneCell'=true/\GrowF t.rp c.base w e v l fps/\∀ b ∈ fps.flatten,(c.S b\/c.base<=b)/\v.ownBlock ≠ some b:=by
 unfold RetL at h
 split at h
 ·rename_i r hr
  obtain ⟨k,ver,o,h1,h2⟩:=h
  obtain ⟨u,g1,g2⟩:=aRes_run (P:=P) hT hs h1 rfl
  obtain ⟨q1,B,hB,q2⟩:=g2
  rw [h2] at hB; injection hB with hB; subst hB
  obtain ⟨fps,hg,hf,hgd,hon⟩:=hs.mm k _ h2
  have hu:u=Γ.hd k:=q2.2 rfl
  have hfr:fn.results=#[r]:=toList1 hr
  refine ⟨u,?_,fps,q1,hu ▸ hg.up hx,fun b hb=>⟨(hgd b (hf ▸ hb)).1,fun he=>?_⟩⟩
  ·rw [results_eq,hfr,List.mapM_toArray,map_eq_pure_bind,Sem.run_bind,Sem.run_bind]
   simp only [List.mapM_cons,List.mapM_nil,Sem.run_bind,g1,Result.andThen_ok,Sem.run_pure]
   simp
  ·exact (hgd b (hf ▸ hb)).2 ⟨k,_,h2,by show (Γ.hd k).ownBlock=some b; rw [<-hu]; exact he⟩
 ·exact h.elim
def KRL (T:TypeId->Option Ty) (rs:List ResultVar) (e:TypeId) (t:Ty) (l:List t.den) (ex:Exit) (σ:St):Prop :=
 match ex with
 | .normal|.ret=>RetL T rs e t l σ
 | _=>False
@[go_sem] theorem KRL_r {rs:List ResultVar} {e:TypeId} {t:Ty} {l:List t.den} {σ:St}:KRL T rs e t l .ret σ=RetL T rs e t l σ:=(rfl)
attribute [go_sem] RetL
theorem fnL_enter (hT:TabOK P T) (hmix:P.follows .mixedOrders=true) {f:FuncId} {fn:Func} {code:Code} {args:List Dat} {e:TypeId} {t:Ty} {l:List t.den} (hf:P.funcs[f]? = some fn) (hname:(fn.name == "runtime.NumGoroutine")=false) (hb:fn.body=some code) (n:Nat) (hn:fn.ntmps=n) (rs:List ResultVar) (hr:fn.results=rs.toArray) (hna:args.length<=n)
  (h:(∀ d ∈ args,Wf d.1 d.2)->AC P T n code (KRL T rs e t l) ⟨argTm 0 args,[]⟩):FnL P f args e t l:=by
 subst hn
 have h':(∀ d ∈ args,Wf d.1 d.2)->AC P T fn.ntmps code (fun e' σ=>match e' with
   | .normal|.ret=>RetL T fn.results.toList e t l σ
   | _=>False) ⟨argTm 0 args,[]⟩:=fun hwf=>by
  have:=h hwf
  have e:(KRL T rs e t l)=fun e' σ=>match e' with
    | .normal|.ret=>RetL T fn.results.toList e t l σ
    | _=>False:=by
   have hrl:fn.results.toList=rs:=by rw [hr]
   rw [hrl]; funext e' σ; cases e'<;>rfl
  rw [e] at this
  exact this
 have:=fn_gen (VQ:=fun b S w v=>∃ fps:List (List Nat),v.oneCell'=true/\GrowF t.rp b w e v l fps/\∀ b' ∈ fps.flatten,(S b'\/b<=b')/\v.ownBlock ≠ some b') hT hmix hf hname hb hna (fun c σ Γ a w hs hx hq=>retL_ok (P:=P) hT hs hx hq) h'
 refine ⟨this.1,fun w vs S hg ha=>(this.2 w vs S hg ha).mono ?_⟩
 rintro e w' ⟨hb,v,he,fps,q1,q2,q3⟩
 exact ⟨hb,v,fps,he,q1,q2,q3⟩
def RetP (T:TypeId->Option Ty) (rs:List ResultVar) (t:Ty) (x:t.den) (σ:St):Prop :=
 match rs with
 | [r]=>match aRes T σ r with
  | some (.ptr k 0)=>match look σ.mem k with
   | some (.box cs)=>Is (look σ.mem) t x cs
   | _=>False
  | _=>False
 | _=>False
attribute [go_sem] RetP
theorem args_wf {w:World} {S:Nat->Prop}:∀ {vs:List Value} {ds:List Dat},All2 (fun v d=>∃ fp,DRep w v d fp/\∀ b ∈ fp,S b) vs ds->∀ d ∈ ds,Wf d.1 d.2
 | _,[],_,d,hd=>by cases hd
 | v :: vs,d :: ds,⟨⟨fp,⟨cs,_,hr⟩,_⟩,h2⟩,d',hd'=>by
  rcases List.mem_cons.1 hd' with rfl|hd'
  ·exact rep_wf hr
  ·exact args_wf h2 d' hd'
 | [],_ :: _,h,_,_=>h.elim
theorem args_at {w:World} {S:Nat->Prop} {e:Dat}:∀ {vs:List Value} {ds:List Dat} {d:Nat},All2 (fun v d=>∃ fp,DRep w v d fp/\∀ b ∈ fp,S b) vs ds->ds[d]? = some e->∃ u,vs[d]? = some u/\∃ fp,DRep w u e fp/\∀ b ∈ fp,S b
 | _,[],d,_,h=>by simp at h
 | [],_ :: _,_,hA,_=>hA.elim
 | v :: vs,d0 :: ds,0,hA,h=>by simp at h; subst h; exact ⟨v,rfl,hA.1⟩
 | v :: vs,d0 :: ds,d+1,hA,h=>by simpa using args_at hA.2 (by simpa using h)
def KRC (T:TypeId->Option Ty) (rs:List ResultVar) (own:Bool) (d:Dat) (B:Blk) (ex:Exit) (σ:St):Prop :=
 match ex with
 | .normal|.ret=>RetOK T σ own rs [d]/\look σ.mem 0=some B
 | _=>False
@[go_sem] theorem KRC_r {rs:List ResultVar} {own:Bool} {d:Dat} {B:Blk} {σ:St}:KRC T rs own d B .ret σ=(RetOK T σ own rs [d]/\look σ.mem 0=some B):=(rfl)
theorem fnC_enter (hT:TabOK P T) (hmix:P.follows .mixedOrders=true) {f:FuncId} {fn:Func} {code:Code} {t:Ty} {l:List t.den} {zs zs':List Value} {args:List Dat} {own:Bool} {d:Dat} (hf:P.funcs[f]? = some fn) (hname:(fn.name == "runtime.NumGoroutine")=false) (hb:fn.body=some code) (n:Nat) (hn:fn.ntmps=n) (rs:List ResultVar) (hr:fn.results=rs.toArray) (hna:args.length < n)
  (hz:∀ z ∈ zs',z.oneCell'=true/\okv z) (hzo:∀ z ∈ zs,z.oneCell'=true)
  (h:∀ b u0,Wf (.slice t) l->(∀ z ∈ zs,okv z)->(∀ d ∈ args,Wf d.1 d.2)->AC P T n code (KRC T rs own d (.bx (some b) (.fx u0 t l :: zs'.map fun z=>.sc z))) ⟨(0,.ptr 0 0) :: argTm 1 args,[(0,.bx (some b) (.fx u0 t l :: zs.map fun z=>.sc z))]⟩):FnC P f t l zs zs' args own d:=by
 subst hn
 refine ⟨fun vs w=>?_,hz,fun w b u0 e fp vs S hgw hgb hg hzs hrp hfp hSb hargs=>?_⟩
 ·have h1:fn.name ≠ "runtime.NumGoroutine":=by simpa using hname
  simp [callFunc,hf,h1,hb]
 ·refine calls_of_wp hf hb ?_
  have hlen:=hargs.len
  let c:Cx:=⟨w.heap.size,w,S,fn.ntmps,fun x=>x=b⟩
  have hmut:∀ {Γ:Asg} {x:Nat},S x->¬ Mut [(0,Blk.bx (some b) (.fx u0 t l :: zs.map fun z=>.sc z))] Γ x:=by
   rintro Γ x hx ⟨k,B,hk,hm⟩
   by_cases h0:k=0
   ·subst h0
    rw [look_self] at hk; injection hk with hk; subst hk
    obtain rfl:x=b:=hm
    exact hSb hx
   ·rw [look_ne _ _ h0] at hk; cases hk
  have hs:Sim c ⟨(0,.ptr 0 0) :: argTm 1 args,[(0,.bx (some b) (.fx u0 t l :: zs.map fun z=>.sc z))]⟩ ⟨fun _=>0,fun _=>undef,fun _=>[]⟩ { tmps:=(.pointer (some ⟨b,0,none⟩) :: vs).toArray++Array.replicate (fn.ntmps - (Value.pointer (some ⟨b,0,none⟩) :: vs).toArray.size) undef,defers:=[] } w:=by
   refine ⟨fun d v hd=>?_,fun k B hk=>?_,fun k k' B B' x hk hk' _ _=>?_,fun k k' B B' x hk hk' hne hx=>?_,.of (Below.refl _ _),Nat.le_refl _,rfl,by simp [c]; omega⟩
   ·by_cases hd0:d=0
    ·subst hd0
     rw [look_self] at hd; injection hd with hd; subst hd
     refine ⟨.pointer (some ⟨b,0,none⟩),?_,some b,_,look_self ..,rfl⟩
     rw [Array.getElem?_append_left (by simp)]; rfl
    ·rw [look_ne _ _ hd0] at hd
     obtain ⟨h1,h2,e,h3,rfl⟩:=argTm_ge hd
     obtain ⟨u,hu,fp,hdr,hS⟩:=args_at hargs h3
     refine ⟨u,?_,arep_vrep (av_rep hdr fun x hx=>⟨.inl (hS x hx),hmut (hS x hx)⟩)⟩
     have hdl:d < (Value.pointer (some ⟨b,0,none⟩) :: vs).length:=by simp; omega
     rw [Array.getElem?_append_left (by simpa using hdl)]
     have:d=(d - 1)+1:=by omega
     rw [this]
     simpa using hu
   ·by_cases h0:k=0
    ·subst h0
     rw [look_self] at hk; injection hk with hk; subst hk
     refine ⟨rfl,_,e,hg,⟨rfl,fp,hrp,fun x hx=>⟨.inl (hfp x hx),hmut (hfp x hx)⟩⟩,?_⟩
     have key:∀ {ys:List Value},(∀ z ∈ ys,okv z)->(∀ z ∈ ys,z.oneCell'=true)->∀ {M:Mm} {Γ:Asg},All2 (CRep c M Γ w) (ys.map fun z=>AV.sc z) ys:=fun h1 h2=>vals_sc fun z hz=>⟨h2 z hz,h1 z hz⟩
     exact key hzs hzo
    ·rw [look_ne _ _ h0] at hk; cases hk
   ·by_cases h0:k=0<;>by_cases h1:k'=0
    ·omega
    ·rw [look_ne _ _ h1] at hk'; cases hk'
    ·rw [look_ne _ _ h0] at hk; cases hk
    ·rw [look_ne _ _ h0] at hk; cases hk
   ·by_cases h0:k=0
    ·subst h0
     rw [look_self] at hk; injection hk with hk; subst hk; cases hx
    ·rw [look_ne _ _ h0] at hk; cases hk
  have hrl:fn.results.toList=rs:=by rw [hr]
  have hcg:Nonempty (CG P c):=⟨CG.of hgw fun g hg e=>hgb g hg e.symm⟩
  refine AC_wp (c:=c) hT hmix (h b u0 (rep_wf (t:=.slice t) hrp) hzs (args_wf hargs)) hs fun e σ' Γ' a' w' hq hs'=>?_
  have hq':∀ (hx:RetOK T σ' own rs [d]/\look σ'.mem 0=some (.bx (some b) (.fx u0 t l :: zs'.map fun z=>.sc z))),a'.defers=[]/\∃ v,(results fn a'.tmps).run P w'=.ok v w'/\BelowX (fun x=>x=b) w.heap.size w w'/\(∃ e,w'.heap[b]? = some (.cells (u0 :: zs').toArray e (0,0)))/\∃ u,Ending.returned v=.returned u/\ResOK own w.heap.size S w' u [d]:=fun hx=>by
   obtain ⟨v,h1,h2⟩:=ret_ok (P:=P) (fn:=fn) hT hs' (fun _ x e=>by have e:x=b:=e; subst e; exact hSb) (by rw [hrl]; exact hx.1)
   obtain ⟨_,us,e,hge,hce⟩:=hs'.mm 0 _ hx.2
   refine ⟨hs'.defs,v,h1,hs'.below,⟨e,?_⟩,v,rfl,h2⟩
   have hul:us.toList=u0 :: zs':=by
    cases hul:us.toList with
    | nil=>rw [hul] at hce; exact hce.elim
    | cons x xs =>
     rw [hul] at hce
     obtain ⟨h3,_⟩:=sc_vals hce.2
     rw [h3,show x=u0 from hce.1.1]
   rw [show (u0 :: zs').toArray=us by rw [<-hul]]
   exact hge
  cases e with
  | normal=>exact hq' hq
  | ret=>exact hq' hq
  | _=>exact hq.elim
def RetN (T:TypeId->Option Ty) (rs:List ResultVar) (cs:List AV) (σ:St):Prop :=
 match rs with
 | [r]=>match aRes T σ r with
  | some (.ptr k 0)=>look σ.mem k=some (.bx none cs)
  | _=>False
 | _=>False
def KRN (T:TypeId->Option Ty) (rs:List ResultVar) (cs:List AV) (ex:Exit) (σ:St):Prop :=
 match ex with
 | .normal|.ret=>RetN T rs cs σ
 | _=>False
@[go_sem] theorem KRN_r {rs:List ResultVar} {cs:List AV} {σ:St}:KRN T rs cs .ret σ=RetN T rs cs σ:=(rfl)
attribute [go_sem] RetN
theorem fnN_enter (hT:TabOK P T) (hmix:P.follows .mixedOrders=true) {f:FuncId} {fn:Func} {code:Code} {t:Ty} {l:List t.den} {zs:List Value} {args:List Dat} (hf:P.funcs[f]? = some fn) (hname:(fn.name == "runtime.NumGoroutine")=false) (hb:fn.body=some code) (n:Nat) (hn:fn.ntmps=n) (rs:List ResultVar) (hr:fn.results=rs.toArray) (hna:args.length < n)
  (hz:∀ z ∈ zs,z.oneCell'=true/\okv z)
  (h:∀ u0,Wf (.slice t) l->(∀ d ∈ args,Wf d.1 d.2)->AC P T n code (KRN T rs (.fx u0 t l :: zs.map fun z=>.sc z)) ⟨(0,.fx u0 t l) :: argTm 1 args,[]⟩):FnN P f t l zs args:=by
 subst hn
 refine ⟨fun vs w=>?_,hz,fun w u0 fp vs S hgw hrp hfp hargs=>?_⟩
 ·have h1:fn.name ≠ "runtime.NumGoroutine":=by simpa using hname
  simp [callFunc,hf,h1,hb]
 ·refine calls_of_wp hf hb ?_
  have hlen:=hargs.len
  let c:Cx:=⟨w.heap.size,w,S,fn.ntmps,fun _=>False⟩
  have hs:Sim c ⟨(0,.fx u0 t l) :: argTm 1 args,[]⟩ ⟨fun _=>0,fun _=>undef,fun _=>[]⟩ { tmps:=(u0 :: vs).toArray++Array.replicate (fn.ntmps - (u0 :: vs).toArray.size) undef,defers:=[] } w:=by
   refine ⟨fun d v hd=>?_,fun k B hk=>(by cases hk),fun k k' B B' b hk=>(by cases hk),fun k k' B B' b hk=>(by cases hk),.of (Below.refl _ _),Nat.le_refl _,rfl,by simp [c]; omega⟩
   have hmut:∀ {Γ:Asg} {x:Nat},¬ Mut [] Γ x:=by rintro Γ x ⟨k,B,hk,_⟩; cases hk
   by_cases hd0:d=0
   ·subst hd0
    rw [look_self] at hd; injection hd with hd; subst hd
    refine ⟨u0,?_,rfl,fp,hrp,fun x hx=>⟨.inl (hfp x hx),hmut⟩⟩
    rw [Array.getElem?_append_left (by simp)]; rfl
   ·rw [look_ne _ _ hd0] at hd
    obtain ⟨h1,h2,e,h3,rfl⟩:=argTm_ge hd
    obtain ⟨u,hu,fp,hdr,hS⟩:=args_at hargs h3
    refine ⟨u,?_,arep_vrep (av_rep hdr fun x hx=>⟨.inl (hS x hx),hmut⟩)⟩
    have hdl:d < (u0 :: vs).length:=by simp; omega
    rw [Array.getElem?_append_left (by simpa using hdl)]
    have:d=(d - 1)+1:=by omega
    rw [this]
    simpa using hu
  have hrl:fn.results.toList=rs:=by rw [hr]
  have hcg:Nonempty (CG P c):=⟨CG.of hgw fun _ _ h=>h⟩
  refine AC_wp (c:=c) hT hmix (h u0 (rep_wf (t:=.slice t) hrp) (args_wf hargs)) hs fun e σ' Γ' a' w' hq hs'=>?_
  have hq':∀ (hx:RetN T rs (.fx u0 t l :: zs.map fun z=>.sc z) σ'),a'.defers=[]/\∃ v,(results fn a'.tmps).run P w'=.ok v w'/\Below w.heap.size w w'/\∃ (b:Nat) (e:TypeId),Ending.returned v=.returned (.pointer (some ⟨b,0,none⟩))/\w.heap.size<=b/\w'.heap[b]? = some (.cells (u0 :: zs).toArray e (0,0)):=fun hx=>by
   unfold RetN at hx
   split at hx
   ·rename_i r
    split at hx
    ·rename_i k h1
     obtain ⟨u,g1,xo,cs',hq,rfl⟩:=aRes_run (P:=P) hT hs' h1 rfl
     rw [hx] at hq; cases hq
     obtain ⟨hbase,us,e,hge,hce⟩:=hs'.mm k _ hx
     have hul:us.toList=u0 :: zs:=by
      cases hul:us.toList with
      | nil=>rw [hul] at hce; exact hce.elim
      | cons x xs =>
       rw [hul] at hce
       obtain ⟨h3,_⟩:=sc_vals hce.2
       rw [h3,show x=u0 from hce.1.1]
     refine ⟨hs'.defs,_,?_,hs'.below.to,Γ'.loc k none,e,rfl,hbase,by rw [show (u0 :: zs).toArray=us by rw [<-hul]]; exact hge⟩
     rw [results_eq,hr,List.mapM_toArray,map_eq_pure_bind,Sem.run_bind,Sem.run_bind]
     simp only [List.mapM_cons,List.mapM_nil,Sem.run_bind,g1,Result.andThen_ok,Sem.run_pure]
     simp
    ·exact hx.elim
   ·exact hx.elim
  cases e with
  | normal=>exact hq' hq
  | ret=>exact hq' hq
  | _=>exact hq.elim
def avW (b:Nat) (d:Dat):AV :=
 match d with
 | ⟨.cst (.ptr p),_⟩=>if p=b then .ptr 0 0 else .sc (.pointer (some ⟨p,0,none⟩))
 | d=>av d.1 d.2
def argW (b i:Nat):List Dat->Tm
 | []=>[]
 | d :: ds=>(i,avW b d) :: argW b (i+1) ds
def RetNP (T:TypeId->Option Ty) (rs:List ResultVar) (t:Ty) (x:t.den) (σ:St):Prop :=
 match rs with
 | [r]=>match aRes T σ r with
  | some (.ptr k 0)=>match look σ.mem k with
   | some (.bx none cs)=>Is (lmQ (look σ.mem)) t x (cs.take t.size)/\(match cs.drop t.size with
    | [.row j v]=>(match look σ.mem j with
     | some (.ob none v' (.map []))=>v'=v
     | _=>False)
    | _=>False)
   | _=>False
  | _=>False
 | _=>False
attribute [go_sem] RetNP avW argW
def argV (i:Nat):List AV->Tm
 | []=>[]
 | v :: vs=>(i,v) :: argV (i+1) vs
theorem argV_ge:∀ {vs:List AV} {i d:Nat} {v:AV},look (argV i vs) d=some v->i<=d/\d < i+vs.length/\vs[d - i]? = some v
 | [],_,_,_,h=>by cases h
 | e :: ds,i,d,v,h=>by
  simp only [argV,look] at h
  split at h
  ·rename_i hd; injection h with h; subst hd h; exact ⟨Nat.le_refl _,by simp,by simp⟩
  ·obtain ⟨h1,h2,h3⟩:=argV_ge h
   refine ⟨by omega,by simp; omega,?_⟩
   rw [show d - i=(d - (i+1))+1 by omega]; exact h3
def RA (T:TypeId->Option Ty) (rs:List ResultVar) (v:AV) (σ:St):Prop :=
 match rs with
 | []=>v=.tup []
 | [r]=>match aRes T σ r with
  | some (.sc x)=>v=.sc x
  | _=>False
 | _=>False
def KRA (T:TypeId->Option Ty) (rs:List ResultVar) (v:AV) (M':Mm) (ex:Exit) (σ:St):Prop :=
 match ex with
 | .normal|.ret=>RA T rs v σ/\Wk σ ⟨[],M'⟩
 | _=>False
@[go_sem] theorem KRA_n {rs:List ResultVar} {v:AV} {M':Mm} {σ:St}:KRA T rs v M' .normal σ=(RA T rs v σ/\Wk σ ⟨[],M'⟩):=(rfl)
@[go_sem] theorem KRA_r {rs:List ResultVar} {v:AV} {M':Mm} {σ:St}:KRA T rs v M' .ret σ=(RA T rs v σ/\Wk σ ⟨[],M'⟩):=(rfl)
attribute [go_sem] RA argV pinM pinB
theorem fnA_enter (hT:TabOK P T) (hmix:P.follows .mixedOrders=true) {f:FuncId} {fn:Func} {code:Code} {vs:List AV} {M M':Mm} {v:AV} (hf:P.funcs[f]? = some fn) (hname:(fn.name == "runtime.NumGoroutine")=false) (hb:fn.body=some code) (n:Nat) (hn:fn.ntmps=n) (rs:List ResultVar) (hr:fn.results=rs.toArray) (hna:vs.length<=fn.ntmps)
  (hv:v=.tup []\/∃ x,v=.sc x) (h:∀ β,AC P T n code (KRA T rs v (pinM β M')) ⟨argV 0 vs,pinM β M⟩):FnA P f vs M v M':=by
 subst hn
 refine ⟨fun vs w=>?_,hv,fun c Γ a w us hcg0 hbase hw0 hs hvs=>?_⟩
 ·have h1:fn.name ≠ "runtime.NumGoroutine":=by simpa using hname
  simp [callFunc,hf,h1,hb]
 ·refine calls_of_wp hf hb ?_
  have hlen:=hvs.len
  let c':Cx:=⟨c.base,c.w0,c.S,fn.ntmps,c.X⟩
  have hs':Sim c' ⟨argV 0 vs,pinM Γ.β M⟩ Γ { tmps:=us.toArray++Array.replicate (fn.ntmps - us.toArray.size) undef,defers:=[] } w:=by
   refine ⟨fun d v hd=>?_,fun k B hk=>hs.mm k B hk,fun k k' B B' b hk hk'=>hs.inj k k' B B' b hk hk',fun k k' B B' b hk hk'=>hs.disj k k' B B' b hk hk',hs.below,hs.hb,rfl,by simp [c']; omega⟩
   obtain ⟨_,h2,h3⟩:=argV_ge hd
   obtain ⟨u,hu,hr⟩:=hvs.get (i:=d) (by simpa using h3)
   refine ⟨u,?_,arep_vrep hr⟩
   have hdl:d < us.length:=by omega
   rw [Array.getElem?_append_left (by simpa using hdl)]
   simpa using hu
  have hcg:Nonempty (CG P c'):=⟨⟨hcg0.g,hcg0.ne⟩⟩
  refine AC_wp (c:=c') hT hmix (h Γ.β) hs' fun e σ' Γ' a' w' hq hs1=>?_
  have hq':∀ (hx:RA T rs v σ'/\Wk σ' ⟨[],pinM Γ.β M'⟩),a'.defers=[]/\∃ u,(results fn a'.tmps).run P w'=.ok u w'/\∃ (u':Value) (Γ':Asg) (a':Act) (n:Nat),Ending.returned u=.returned u'/\Sim ⟨c.base,c.w0,c.S,n,c.X⟩ ⟨[],pinM Γ.β M'⟩ Γ' a' w'/\VRep c (pinM Γ.β M') Γ' w' v u':=by
   rintro ⟨h1,h2⟩
   obtain ⟨Γ2,hs2⟩:=wk_sim hs1 h2
   refine ⟨hs1.defs,?_⟩
   unfold RA at h1
   split at h1
   ·subst h1
    refine ⟨.tuple #[],?_,_,Γ2,a',fn.ntmps,rfl,hs2,[],rfl,trivial⟩
    rw [results_eq,hr,List.mapM_toArray,map_eq_pure_bind,Sem.run_bind,Sem.run_bind]
    simp
   ·rename_i r
    split at h1
    ·rename_i x hx
     subst h1
     obtain ⟨u,g1,g2⟩:=aRes_run (P:=P) hT hs1 hx rfl
     refine ⟨u,?_,_,Γ2,a',fn.ntmps,rfl,hs2,g2⟩
     rw [results_eq,hr,List.mapM_toArray,map_eq_pure_bind,Sem.run_bind,Sem.run_bind]
     simp only [List.mapM_cons,List.mapM_nil,Sem.run_bind,g1,Result.andThen_ok,Sem.run_pure]
     simp
    ·exact h1.elim
   ·exact h1.elim
  cases e with
  | normal=>exact hq' hq
  | ret=>exact hq' hq
  | _=>exact hq.elim
end
end Go.Proofs.YtcbionahcldlnaaGreat.DW

namespace Go.Proofs.YtcbionahcldlnaaGreat.DW
open Go.RowKit
attribute [go_sem] argV
end Go.Proofs.YtcbionahcldlnaaGreat.DW

namespace Go.Proofs.YtcbionahcldlnaaGreat.DW
open Go.RowKit
end Go.Proofs.YtcbionahcldlnaaGreat.DW

namespace Go.Proofs.YtcbionahcldlnaaGreat.DW
open Go.RowKit
theorem areBig_fn (x y:DB):Fn Tryz.prog 239 [⟨tBig,x⟩,⟨tBig,y⟩] false [⟨.bool,okB x && okB y⟩]:=by
 cases hx:okB x
 ·refine fe Tryz.func239 Tryz.ntmps239 Tryz.results239 fun hwf=>?_
  try simp (maxSteps:=9^9) only[go_sem]
  repeat refine AI ?_
  refine cw (implBigIntOk_fn x) ?_
  try simp (maxSteps:=9^9) only[go_sem]
  try simp (maxSteps:=9^9) only[go_sem,hx]
 ·refine fe Tryz.func239 Tryz.ntmps239 Tryz.results239 fun hwf=>?_
  try simp (maxSteps:=9^9) only[go_sem]
  repeat refine AI ?_
  refine cw (implBigIntOk_fn x) ?_
  try simp (maxSteps:=9^9) only[go_sem]
  try simp (maxSteps:=9^9) only[go_sem,hx]
  repeat refine AI ?_
  refine cw (implBigIntOk_fn y) ?_
  try simp (maxSteps:=9^9) only[go_sem]
theorem nl_1 {n:Nat} (h:n < 1000000000):nl n<=1:=by
 have:=nl_small (n:=n) h
 exact this
theorem bigD_pos {d:Int} (hd:0<=d):bigD d=(false,natL d.toNat):=by
 show (decide (d < 0),natL d.natAbs)=_
 rw [decide_eq_false (by omega),show d.natAbs=d.toNat by omega]
theorem mk_div {n d:Int} (hd:1<=d):_root_.mkRat n d.toNat=(n:Rat) / (d:Rat):=by
 rw [Rat.mkRat_eq_div]
 have:((d.toNat:Nat):Rat)=((d:Int):Rat):=by
  have h:((d.toNat:Nat):Int)=d:=by omega
  rw [<-h]; rfl
 rw [this]
theorem neq_f (b:Bool):(!(b == false))=b:=by cases b<;>rfl
theorem RatOfI_fn (n d:Int) (hn:n.natAbs < 1000000000) (hd:1<=d/\d < 1000000000):Fn Tryz.prog 175 [⟨.int,n⟩,⟨.int,d⟩] true [⟨tRat,oD (capR ((n:Rat) / (d:Rat)))⟩]:=by
 have h1:=nl_1 hn
 have h2:=nl_1 (show d.toNat < 1000000000 by omega)
 have hm:=ratMake_end n d.toNat (by omega) (by omega) (by omega)
 rw [mk_div hd.1] at hm
 have c1:=bigOf_fn d
 rw [bigD_pos (by omega)] at c1
 have ok1:okB (bigD n)=true:=okB_bigD (by omega)
 have ok2:okB (false,natL d.toNat)=true:=by rw [<-bigD_pos (by omega)]; exact okB_bigD (by rw [show d.natAbs=d.toNat by omega]; omega)
 have ca:=areBig_fn (bigD n) (false,natL d.toNat)
 rw [ok1,ok2] at ca
 have hl:¬ ((nl d.toNat:Int)=0):=fun h=>by have:=nl_eq_zero.1 (show nl d.toNat=0 by omega); omega
 have hM:Fn Tryz.prog 207 [⟨tBig,bigD n⟩,⟨tBig,(false,natL d.toNat)⟩] true [⟨tRat,oD (capR ((n:Rat) / (d:Rat)))⟩]:=by
  have cb:=bigMake_to (s:=!(decide (n < 0) == false)) (n:=n.natAbs) (z:=n) (by rw [neq_f]; exact sgn_bigD n)
  refine fe Tryz.func207 Tryz.ntmps207 Tryz.results207 fun hwf=>?_
  try simp (maxSteps:=9^9) only[go_sem]
  repeat refine AI ?_
  refine cw ca ?_
  try simp (maxSteps:=9^9) only[go_sem]
  try simp (maxSteps:=9^9) only[go_sem,hl]
  repeat refine AI ?_
  repeat refine AI ?_
  refine cw cb ?_
  try simp (maxSteps:=9^9) only[go_sem]
  repeat refine AI ?_
  refine cw hm ?_
  try simp (maxSteps:=9^9) only[go_sem]
  all_goals repeat refine AI ?_
  all_goals first|kernel_rfl|omega|rfl
 refine fe Tryz.func175 Tryz.ntmps175 Tryz.results175 fun hwf=>?_
 try simp (maxSteps:=9^9) only[go_sem]
 repeat refine AI ?_
 refine cw (bigOf_fn n) ?_
 try simp (maxSteps:=9^9) only[go_sem]
 repeat refine AI ?_
 refine cw c1 ?_
 try simp (maxSteps:=9^9) only[go_sem]
 repeat refine AI ?_
 refine cw hM ?_
 try simp (maxSteps:=9^9) only[go_sem]
end Go.Proofs.YtcbionahcldlnaaGreat.DW
