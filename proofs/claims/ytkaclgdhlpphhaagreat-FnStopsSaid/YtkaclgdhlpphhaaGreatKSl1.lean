/-
  Texts of a proof, one behind another: Mem, Open, Grow, DwA, DwB, DwC, DwD, DwE, DwF, DwG, DwH, DwS, DwW.
-/
import Derived.WalkKit
import Derived.WalkSpells
import Derived.WalkLawsBesides
import Derived.BigQuiet
import Derived.Deep.QuietTactic
import Derived.Lib.Hide
import Derived.StillTailTactics
import Derived.ProofKit
import Derived.Deep.Slices
import Derived.Maps.AppendAt
import Derived.Lib.LaidTab
import Derived.Lib.ItoaMem
import Derived.IntWalk
import Derived.Laws.FloatArith
import Derived.Laws.Entries
import Derived.Laws.StructEq
set_option linter.all false
open Nat (le_refl zero_le le_trans add_zero lt_of_lt_of_le zero_add lt_or_ge add_assoc)
open List (mem_append mem_singleton mem_cons mem_cons_self getElem?_eq_getElem mem_cons_of_mem length_append length_take mem_flatMap getElem?_take mem_map getElem_of_mem getD_eq_getElem?_getD length_cons mem_flatten length_drop nil_append getElem?_drop append_assoc cons_append all_cons mem_of_getElem?)
open Array (getElem?_toList toList_inj toList_map)
open Bool (false_eq_true)
open Option (map_eq_some_iff)
open ByteArray (empty)
noncomputable section
namespace Go.Proofs.YtkaclgdhlpphhaaGreat
section
theorem J {p:Prop} (h:p:=by omega):p:=h
theorem ae {p:Prop} (h:p:=by decide):p:=h
theorem ah {p:Prop} (h:p:=by simp):p:=h
theorem ai {p:Prop} (h:p:=by kernel_rfl):p:=h
theorem aj {p:Prop} [Decidable p] (h:p):decide p=true:=decide_eq_true h
theorem ak {p:Prop} [Decidable p] (h:¬p):decide p=false:=decide_eq_false h
end
section
open Go.RowKit
@[go_sem] theorem Ea {P:Program} {w:World} {a:Addr} {m:Mode} {v:Value} (hv:v.oneCell'=true):(store a v m).run P w=stored P w a v m:=run_store P w a v m hv
def bU (a:Int):Prop:=-9223372036854775808<=a/\a<=9223372036854775807
structure Rp (α:Type) where
 size:Nat
 rep:World->List Value->α->List Nat->Prop
 len:∀{w cs a fp},rep w cs a fp->cs.length=size
 lt:∀{w cs a fp},rep w cs a fp->∀b ∈ fp,b < w.heap.size
 frame:∀{w w' cs a fp},rep w cs a fp->(∀b ∈ fp,w'.heap[b]? = w.heap[b]?)->rep w' cs a fp
 one:∀{w cs a fp},rep w cs a fp->∀v ∈ cs,v.oneCell'=true
theorem nG {w:World} {b:Nat} {o:Obj} (h:w.heap[b]? = some o):b < w.heap.size:=(Array.getElem?_eq_some_iff.1 h).1
theorem qY {w:World} {b o:Nat} {v:Value} (h:w.cell? ⟨b,o,none⟩=some v):b < w.heap.size:=World.block_lt_of_cell? w ⟨b,o,none⟩ h
theorem lz {w w':World} {b o:Nat} (h:w'.heap[b]? = w.heap[b]?):w'.cell? ⟨b,o,none⟩=w.cell? ⟨b,o,none⟩:=World.cell?_of_block (a:=⟨b,o,none⟩) h
def Rp.int:Rp Int where
 size:=1
 rep _ cs a fp:=cs=[.int .i64 a]/\fp=[]/\bU a
 len h:=by rw[h.1]; rfl
 lt h b hb:=by rw[h.2.1] at hb; cases hb
 frame h _:=h
 one h v hv:=by rw[h.1] at hv; simp at hv; subst hv; rfl
def Rp.bool:Rp Bool where
 size:=1
 rep _ cs a fp:=cs=[.bool a]/\fp=[]
 len h:=by rw[h.1]; rfl
 lt h b hb:=by rw[h.2] at hb; cases hb
 frame h _:=h
 one h v hv:=by rw[h.1] at hv; simp at hv; subst hv; rfl
def Rp.prod {α β:Type} (A:Rp α) (B:Rp β):Rp (α × β) where
 size:=A.size+B.size
 rep w cs a fp:=∃c1 c2 f1 f2,cs=c1++c2/\fp=f1++f2/\A.rep w c1 a.1 f1/\B.rep w c2 a.2 f2
 len h:=by
  obtain⟨c1,c2,f1,f2,rfl,rfl,h1,h2⟩:=h
  rw[length_append,A.len h1,B.len h2]
 lt h b hb:=by
  obtain⟨c1,c2,f1,f2,rfl,rfl,h1,h2⟩:=h
  rcases mem_append.1 hb with hb|hb
  ·exact A.lt h1 b hb
  ·exact B.lt h2 b hb
 frame h hf:=by
  obtain⟨c1,c2,f1,f2,rfl,rfl,h1,h2⟩:=h
  exact⟨c1,c2,f1,f2,rfl,rfl,A.frame h1 (fun b hb=>hf b (mem_append.2 (.inl hb))),B.frame h2 (fun b hb=>hf b (mem_append.2 (.inr hb)))⟩
 one h v hv:=by
  obtain⟨c1,c2,f1,f2,rfl,rfl,h1,h2⟩:=h
  rcases mem_append.1 hv with hv|hv
  ·exact A.one h1 v hv
  ·exact B.one h2 v hv
def abP {α:Type} (A:Rp α) (w:World) (b off:Nat) (l:List α) (fps:List (List Nat)):Prop :=
 fps.length=l.length/\∀i x,l[i]? = some x->∃f cs,fps[i]? = some f/\A.rep w cs x f/\∀j v,cs[j]? = some v->w.cell? ⟨b,off+i * A.size+j,none⟩=some v
def Rp.slice {α:Type} (A:Rp α) (pos:0 < A.size):Rp (List α) where
 size:=1
 rep w cs l fp:=∃ad c,cs=[.slice ad l.length c]/\l.length<=c/\c<=maxLen ∧
  ((l=[]/\fp=[])\/∃b off fps,l ≠ []/\ad=some ⟨b,off,none⟩/\fp=b :: fps.flatten/\abP A w b off l fps)
 len h:=by obtain⟨ad,c,rfl,_⟩:=h; rfl
 lt:=fun {w cs l fp} h k hk=>by
  obtain⟨ad,c,_,_,_,⟨_,rfl⟩|⟨b,off,fps,hl,_,rfl,hlen,he⟩⟩:=h
  ·cases hk
  ·rcases mem_cons.1 hk with rfl|hk
   ·match l,hl,he with
    | x :: l,_,he =>
     obtain⟨f,cs,_,hr,hc⟩:=he 0 x rfl
     have hcl:=A.len hr
     have:cs[0]? = some (cs[0]'J):=getElem?_eq_getElem J
     exact qY (hc 0 _ this)
   ·obtain⟨f,hf,hkf⟩:=mem_flatten.1 hk
    obtain⟨i,hi,hfi⟩:=getElem_of_mem hf
    have hx:l[i]? = some (l[i]'J):=getElem?_eq_getElem J
    obtain⟨f',cs,hf',hr,_⟩:=he i _ hx
    rw[getElem?_eq_getElem hi,hfi] at hf'
    injection hf' with hf'
    subst hf'
    exact A.lt hr k hkf
 frame h hf:=by
  obtain⟨ad,c,h1,h2,h3,h4⟩:=h
  refine⟨ad,c,h1,h2,h3,?_⟩
  rcases h4 with h4|⟨b,off,fps,hl,ha,rfl,hlen,he⟩
  ·exact .inl h4
  ·refine .inr ⟨b,off,fps,hl,ha,rfl,hlen,fun i x hx=>?_⟩
   obtain⟨f,cs,hfi,hr,hc⟩:=he i x hx
   refine⟨f,cs,hfi,A.frame hr (fun k hk=>hf k (mem_cons_of_mem _ (mem_flatten.2 ⟨f,mem_of_getElem? hfi,hk⟩))),fun j v hv=>?_⟩
   rw[lz (hf b mem_cons_self)]
   exact hc j v hv
 one h v hv:=by obtain⟨ad,c,rfl,_⟩:=h; simp at hv; subst hv; rfl
def Has {α:Type} (A:Rp α) (w:World) (cs:List Value) (a:α):Prop:=∃fp,A.rep w cs a fp
theorem Has.below {α:Type} {A:Rp α} {w w':World} {cs:List Value} {a:α} (h:Has A w cs a) (hb:Below w.heap.size w w'):Has A w' cs a :=
 let ⟨fp,hr⟩:=h; ⟨fp,A.frame hr fun b hb'=>hb.block b (A.lt hr b hb')⟩
def pU (w:World) (b:Nat):Prop:=∃cs e,w.heap[b]? = some (.cells cs e (0,0))
theorem pU.lt {w:World} {b:Nat} (h:pU w b):b < w.heap.size:=by obtain⟨cs,e,h⟩:=h; exact nG h
theorem pU.frame {w w':World} {b:Nat} (h:pU w b) (hf:w'.heap[b]? = w.heap[b]?):pU w' b:=by obtain⟨cs,e,h⟩:=h; exact⟨cs,e,hf.trans h⟩
def kF (base:Nat) (w:World) (fp:List Nat):Prop:=fp.Nodup/\∀b ∈ fp,base<=b/\pU w b
theorem OF {B:Nat} {W w1:World} (hb:Below B W w1):(∀b o,b < B->w1.cell? ⟨b,o,none⟩=W.cell? ⟨b,o,none⟩)/\(∀b o,b < B->w1.frozen? ⟨b,o,none⟩=W.frozen? ⟨b,o,none⟩) :=
 ⟨fun b o h=>hb.cell (p:=⟨b,o,none⟩) h,fun b o h=>hb.frozen (p:=⟨b,o,none⟩) h⟩
theorem _root_.Go.RowKit.Below.drewN {B:Nat} {a w:World} (h:Below B a w) (n:Nat):Below B a (w.drewN n):=⟨h.os,h.tape,h.output,h.size,h.block⟩
theorem Below.up {B:Nat} {w w0 w1:World} (h0:Below B w w0) (h:Below w0.heap.size w0 w1) (hB:B<=w0.heap.size):Below B w w1:=h0.trans (h.mono hB)
theorem Has.split {α β:Type} {A:Rp α} {B:Rp β} {w:World} {x:α × β} (c1 c2:List Value) (hl:c1.length=A.size) (h:Has (Rp.prod A B) w (c1++c2) x):Has A w c1 x.1/\Has B w c2 x.2:=by
 obtain⟨fp,d1,d2,f1,f2,hc,_,h1,h2⟩:=h
 have hd:=A.len h1
 have:c1=d1/\c2=d2:=List.append_inj hc J
 obtain⟨rfl,rfl⟩:=this
 exact⟨⟨f1,h1⟩,⟨f2,h2⟩⟩
theorem Has.elems {α:Type} {A:Rp α} {p:0 < A.size} {w:World} {v:Value} {l:List α} (h:Has (Rp.slice A p) w [v] l) :
  ∃ad c,v=.slice ad l.length c/\l.length<=c/\c<=maxLen/\∀i (hi:i < l.length),∃b off cs,ad=some ⟨b,off,none⟩/\b < w.heap.size/\Has A w cs l[i]/\∀j u,cs[j]? = some u->w.cell? ⟨b,off+i * A.size+j,none⟩=some u:=by
 obtain⟨fp,ad,c,h1,h2,h3,h4⟩:=h
 injection h1 with h1
 refine⟨ad,c,h1,h2,h3,fun i hi=>?_⟩
 rcases h4 with ⟨rfl,_⟩|⟨b,off,fps,hl,ha,hfp,hlen,he⟩
 ·simp at hi
 ·obtain⟨f,cs,_,hr,hc⟩:=he i l[i] (getElem?_eq_getElem hi)
  have hcl:=A.len hr
  have h0:cs[0]? = some (cs[0]'J):=getElem?_eq_getElem J
  exact⟨b,off,cs,ha,qY (hc 0 _ h0),⟨f,hr⟩,hc⟩
theorem Has.len {α:Type} {A:Rp α} {w:World} {cs:List Value} {a:α} (h:Has A w cs a):cs.length=A.size:=let ⟨_,hr⟩:=h; A.len hr
theorem Has.one {α:Type} {A:Rp α} {w:World} {cs:List Value} {a:α} (h:Has A w cs a) (i:Nat) (v:Value) (hv:cs[i]? = some v):v.oneCell'=true:=let ⟨_,hr⟩:=h; A.one hr v (mem_of_getElem? hv)
theorem Has.int {w:World} {v:Value} {a:Int} (h:Has Rp.int w [v] a):v=.int .i64 a/\bU a:=by
 obtain⟨fp,h1,_,h3⟩:=h
 injection h1 with h1
 exact⟨h1,h3⟩
theorem Has.bool {w:World} {v:Value} {a:Bool} (h:Has Rp.bool w [v] a):v=.bool a:=by
 obtain⟨fp,h1,_⟩:=h
 injection h1 with h1
section
variable {α β:Type} {A:Rp α} {B:Rp β} {lo hi lo2 hi2:Nat} {w w':World} {cs c1 c2:List Value} {a:α} {b:β}
end
def putCells (w:World) (g o:Nat):List Value->World
 | []=>w
 | c :: cs=>putCells (w.setCell ⟨g,o,none⟩ c) g (o+1) cs
theorem lr (g:Nat) (cs:List Value):∀(w:World) (o k:Nat),k ≠ g->(putCells w g o cs).heap[k]? = w.heap[k]?:=by
 induction cs with
 | nil=>intro w o k _; rfl
 | cons c cs ih=>intro w o k hk; exact (ih _ _ _ hk).trans (Below.heap_setCell _ _ _ _ (by exact hk))
theorem tO {B:Nat} {w0:World} (g:Nat) (cs:List Value):∀(w:World) (o:Nat),Below B w0 w->B<=g->Below B w0 (putCells w g o cs):=by
 induction cs with
 | nil=>intro w o h _; exact h
 | cons c cs ih=>intro w o h hg; exact ih _ _ (h.setCell (p:=⟨g,o,none⟩) hg c) hg
theorem mI {w:World} {g o:Nat} {cur:Array Value} {e:TypeId} (h:w.heap[g]? = some (.cells cur e (0,0))) (v:Value):(w.setCell ⟨g,o,none⟩ v).heap[g]? = some (.cells (cur.setIfInBounds o v) e (0,0)):=by
 simp[World.setCell,Array.getElem?_modify,h]
theorem xc (g:Nat) (e:TypeId) (cs:List Value):∀(w:World) (o:Nat) (cur:Array Value),w.heap[g]? = some (.cells cur e (0,0))->o+cs.length<=cur.size →
  ∃cur',(putCells w g o cs).heap[g]? = some (.cells cur' e (0,0))/\cur'.size=cur.size/\(∀j v,cs[j]? = some v->cur'[o+j]? = some v)/\∀i,i < o\/o+cs.length<=i->cur'[i]? = cur[i]?:=by
 induction cs with
 | nil=>intro w o cur h _; exact⟨cur,h,rfl,fun j v hj=>by simp at hj,fun i _=>rfl⟩
 | cons c cs ih =>
  intro w o cur h hl
  simp only[length_cons] at hl
  obtain⟨cur',h1,h2,h3,h4⟩:=ih (w.setCell ⟨g,o,none⟩ c) (o+1) _ (mI h c) (by simp; omega)
  refine⟨cur',h1,by rw[h2]; simp,fun j v hj=>?_,fun i hi=>?_⟩
  ·cases j with
   | zero =>
    simp at hj
    subst hj
    rw[h4 _ J]
    simp only[add_zero]
    rw[Array.getElem?_setIfInBounds_self_of_lt J]
   | succ j =>
    have:=h3 j v (by simpa using hj)
    rw[<-this]
    congr 1
    omega
  ·simp only[length_cons] at hi
   rw[h4 i J,Array.getElem?_setIfInBounds_ne J]
section
variable {α:Type} {A:Rp α} {w w':World} {g n:Nat} {e:TypeId} {l:List α}
end
structure ac2 (fp:List Nat) (w w':World):Prop where
 os:w'.os=w.os
 tape:w'.tape=w.tape
 output:w'.output=w.output
 size:w.heap.size<=w'.heap.size
 block:∀k,k < w.heap.size->k ∉ fp->w'.heap[k]? = w.heap[k]?
 free:∀k ∈ fp,pU w k->pU w' k
section
variable {fp fq:List Nat} {w w1 w2:World}
end
theorem KO {w:World} {b o p:Nat} (v:Value) (h:o ≠ p):(w.setCell ⟨b,p,none⟩ v).cell? ⟨b,o,none⟩=w.cell? ⟨b,o,none⟩:=World.cell?_setCell_other w _ _ v (fun e=>h (by injection e with _ e; exact e.symm))
def UK {α:Type} (A:Rp α) (cs:List Value) (a:α) (fp:List Nat) (k:Int) (w:World):Value->World->Prop:=fun v w'=>v=.int .i64 k/\A.rep w' cs a fp/\ac2 fp w w'
theorem FY {α:Type} {a b:List α} (h:(a++b).Nodup):a.Nodup/\b.Nodup/\(∀x ∈ a,x ∉ b)/\∀x ∈ b,x ∉ a:=by
 rw[List.nodup_append] at h
 exact⟨h.1,h.2.1,fun x hx hy=>h.2.2 x hx x hy rfl,fun x hx hy=>h.2.2 x hy x hx rfl⟩
def l6 {α:Type} (a b:α):Bool:=@decide (a=b) (Classical.propDecidable _)
theorem gD {α:Type} {a b:α} (h:a=b):l6 a b=true:=@aj _ (Classical.propDecidable _) h
theorem cD {α:Type} {a b:α} (h:¬ a=b):l6 a b=false:=@ak _ (Classical.propDecidable _) h
def Ko {α:Type} (a b:α) (w:World):Value->World->Prop:=fun v w'=>v=.bool (l6 a b)/\Below w.heap.size w w'
def Post (R:Value->World->Prop) (e:Ending) (w':World):Prop:=∃v,e=.returned v/\R v w'
end

section
open Go.RowKit Go.ChangeShapes Go.WideShapes Go.Deep
section
variable {H:Type} (enc:TypeId × Value->H) (P:Program) (w:World)
def sY {α:Type} (t:TypeId) (A:Rp α):Prop:=∀(fuel:Nat) (cs:List Value) (x:DataW H × List MemPlace),DataW.trod enc P w 0 (fun _=>true) true fuel t cs=some x->∃a,Has A w cs a
variable {enc P w}
theorem sY.slice {α:Type} {t e:TypeId} {A:Rp α} {p:0 < A.size} (ht:P.underlying t=some (.slice e)) (hs:P.cellsOf e=A.size) (h0:sY enc P w e A):sY enc P w t (Rp.slice A p):=fun fuel cs x h=>by
 rcases open_slice ht h with ⟨rfl,_⟩|⟨a,len,cap,m,n,D,Pl,rfl,hb,hl,hm,hmm,hx,hi⟩
 ·exact⟨[],[],none,0,rfl,le_refl _,zero_le _,.inl ⟨rfl,rfl⟩⟩
 ·have hcap:m=cap:=by simpa using hmm
  clear hmm hx
  rw[hs] at hi
  by_cases h0l:len=0
  ·subst h0l
   exact⟨[],[],some a,cap,rfl,zero_le _,hm,.inl ⟨rfl,rfl⟩⟩
  have hel:∀i,i < len->∃y:α × List Nat × List Value,A.rep w y.2.2 y.1 y.2.1/\∀j v,y.2.2[j]? = some v->w.cell? ((a.add (i * A.size)).add j)=some v:=by
   intro i hil
   obtain⟨cs',hc,htr⟩:=hi i J
   obtain⟨x,f,r⟩:=h0 _ _ _ htr
   obtain⟨_,hcl,hat⟩:=World.cells?_some hc
   refine⟨(x,f,cs'),r,fun j v hv=>?_⟩
   have hj:j < cs'.length:=(List.getElem?_eq_some_iff.1 hv).1
   rw[hat j J]
   exact hv
  have hex:∃ys:List (α × List Nat × List Value),ys.length=len/\∀i y,ys[i]? = some y->A.rep w y.2.2 y.1 y.2.1/\∀j v,y.2.2[j]? = some v->w.cell? ((a.add (i * A.size)).add j)=some v:=by
   have:∀k,k<=len->∃ys:List (α × List Nat × List Value),ys.length=k/\∀i y,ys[i]? = some y->A.rep w y.2.2 y.1 y.2.1/\∀j v,y.2.2[j]? = some v->w.cell? ((a.add (i * A.size)).add j)=some v:=by
    intro k
    induction k with
    | zero=>intro _; exact⟨[],rfl,fun i y h=>by simp at h⟩
    | succ k ih =>
     intro hk
     obtain⟨ys,hyl,hys⟩:=ih J
     obtain⟨y,hy⟩:=hel k J
     refine⟨ys++[y],by simp[hyl],fun i z hz=>?_⟩
     rcases lt_or_ge i ys.length with hi|hi
     ·rw[List.getElem?_append_left hi] at hz
      exact hys i z hz
     ·have hik:i=k:=by
       have:=(List.getElem?_eq_some_iff.1 hz).1
       simp at this
       omega
      subst hik
      rw[<-hyl] at hz ⊢
      simp at hz
      subst hz
      exact hyl ▸ hy
   exact this len (le_refl _)
  obtain⟨ys,hyl,hys⟩:=hex
  have hspot:a.spot=none:=by
   have hy0:ys[0]? = some (ys[0]'J):=getElem?_eq_getElem J
   obtain⟨r,hc⟩:=hys 0 _ hy0
   have hcl:=A.len r
   have h0c:=hc 0 _ (getElem?_eq_getElem J)
   simp[Addr.add] at h0c
   exact World.cell?_spot h0c
  obtain⟨b,off,spot⟩:=a
  simp at hspot
  subst hspot
  refine⟨ys.map (·.1),b :: (ys.map (·.2.1)).flatten,some ⟨b,off,none⟩,cap,by simp[hyl],by simpa [hyl] using hl,hm,.inr ⟨b,off,ys.map (·.2.1),?_,rfl,rfl,by simp,fun i x hx=>?_⟩⟩
  ·intro hn
   have:ys=[]:=by simpa using hn
   subst this
   simp at hyl
   omega
  ·rw[List.getElem?_map] at hx
   obtain⟨y,hy,rfl⟩:=map_eq_some_iff.1 hx
   obtain⟨r,hc⟩:=hys i y hy
   refine⟨y.2.1,y.2.2,by rw[List.getElem?_map,hy]; rfl,r,fun j v hv=>?_⟩
   have h:=hc j v hv
   rw[Go.Deep.add_add] at h
   have hadd:∀k,(⟨b,off,none⟩:Addr).add k=⟨b,off+k,none⟩:=fun k=>by
    unfold Addr.add
    by_cases hk:k=0
    ·subst hk; rfl
    ·rw[if_neg hk]
   rw[hadd] at h
   rw[add_assoc]
   exact h
end
section
variable {α:Type} {A:Rp α} {ow:Bool} {base:Nat} {w w':World} {e:TypeId} {v:Value} {l:List α}
end
section
variable {α:Type} {A:Rp α} {ow:Bool} {P:Program} (w:World)
end
end

namespace DW
open Go.RowKit
inductive lC where
 | fn (f:FuncId)
 | nil
 | mp (m:Option Nat)
 | ptr (b:Nat)
def lC.val:lC->Value
 | .fn f=>.func (.func f) #[] #[]
 | .nil=>.slice none 0 0
 | .mp m=>.map m
 | .ptr b=>.pointer (some ⟨b,0,none⟩)
theorem lC.one (k:lC):k.val.oneCell'=true:=by cases k<;>rfl
inductive Ex where
 | ref
 | ie (f:FuncId)
 | sS
def Ex.zv:Ex->Value
 | .ref=>.pointer none
 | .ie _=>.nilFunc
 | .sS=>.map none
inductive Ty where
 | int
 | bool
 | str
 | u8
 | dr (k:lC)
 | prod (a b:Ty)
 | slice (a:Ty)
 | ext (e:Ex) (a:Ty)
@[reducible] def Ty.den:Ty->Type
 | .int=>Int
 | .bool=>Bool
 | .str=>ByteArray
 | .u8=>Int
 | .dr _=>Unit
 | .prod a b=>a.den × b.den
 | .slice a=>List a.den
 | .ext _ a=>Option a.den
def pv {α:Type} (e:Ex) (A:Rp α) (hp:0 < A.size):Rp (Option α) where
 size:=1
 rep w cs x fp:=match x with
  | none=>cs=[e.zv]/\fp=[]
  | some y=>match e with
   | .ref=>∃b o cs' fp',cs=[.pointer (some ⟨b,o,none⟩)]/\fp=b :: fp'/\A.rep w cs' y fp'/\∀j v,cs'[j]? = some v->w.cell? ⟨b,o+j,none⟩=some v
   | .ie f=>∃cs',cs=[.func (.func f) #[] cs'.toArray]/\A.rep w cs' y fp
   | .sS=>∃v,cs=[v]/\v.oneCell'=true/\fp=[]
 len {w cs x fp} h:=by
  cases x with
  | none=>rw[h.1]; rfl
  | some y=>cases e with
   | ref=>obtain⟨_,_,_,_,rfl,_⟩:=h; rfl
   | ie f=>obtain⟨_,rfl,_⟩:=h; rfl
   | sS=>obtain⟨_,rfl,_⟩:=h; rfl
 lt {w cs x fp} h b hb:=by
  cases x with
  | none=>rw[h.2] at hb; cases hb
  | some y=>cases e with
   | ref =>
    obtain⟨b',o,cs',fp',_,rfl,hr,hc⟩:=h
    rcases mem_cons.1 hb with rfl|hb
    ·have hl:=A.len hr
     exact qY (hc 0 _ (getElem?_eq_getElem J))
    ·exact A.lt hr b hb
   | ie f=>obtain⟨cs',_,hr⟩:=h; exact A.lt hr b hb
   | sS=>obtain⟨_,_,_,rfl⟩:=h; cases hb
 frame {w w' cs x fp} h hf:=by
  cases x with
  | none=>exact h
  | some y=>cases e with
   | ref =>
    obtain⟨b',o,cs',fp',h1,rfl,hr,hc⟩:=h
    exact⟨b',o,cs',fp',h1,rfl,A.frame hr fun b hb=>hf b (mem_cons_of_mem _ hb),fun j v hv=>(lz (hf b' mem_cons_self)).trans (hc j v hv)⟩
   | ie f=>obtain⟨cs',h1,hr⟩:=h; exact⟨cs',h1,A.frame hr hf⟩
   | sS=>exact h
 one {w cs x fp} h v hv:=by
  cases x with
  | none=>rw[h.1] at hv; simp at hv; subst hv; cases e<;>rfl
  | some y=>cases e with
   | ref=>obtain⟨_,_,_,_,rfl,_⟩:=h; simp at hv; subst hv; rfl
   | ie f=>obtain⟨_,rfl,_⟩:=h; simp at hv; subst hv; rfl
   | sS=>obtain⟨u,rfl,hu,_⟩:=h; simp at hv; subst hv; exact hu
def abx:Rp ByteArray where
 size:=1
 rep _ cs a fp:=cs=[.string a]/\fp=[]/\a.size<=maxLen
 len h:=by rw[h.1]; rfl
 lt h b hb:=by rw[h.2.1] at hb; cases hb
 frame h _:=h
 one h v hv:=by rw[h.1] at hv; simp at hv; subst hv; rfl
def RpU8:Rp Int where
 size:=1
 rep _ cs a fp:=cs=[.int .u8 a]/\fp=[]/\0<=a/\a<=255
 len h:=by rw[h.1]; rfl
 lt h b hb:=by rw[h.2.1] at hb; cases hb
 frame h _:=h
 one h v hv:=by rw[h.1] at hv; simp at hv; subst hv; rfl
def ab4 (f:lC):Rp Unit where
 size:=1
 rep _ cs _ fp:=cs=[f.val]/\fp=[]
 len h:=by rw[h.1]; rfl
 lt h b hb:=by rw[h.2] at hb; cases hb
 frame h _:=h
 one h v hv:=by rw[h.1] at hv; simp at hv; subst hv; exact f.one
def Ty.CE:(t:Ty)->{ A:Rp t.den // 0 < A.size }
 | .int=>⟨Rp.int,Nat.one_pos⟩
 | .bool=>⟨Rp.bool,Nat.one_pos⟩
 | .str=>⟨abx,Nat.one_pos⟩
 | .u8=>⟨RpU8,Nat.one_pos⟩
 | .dr f=>⟨ab4 f,Nat.one_pos⟩
 | .prod a b=>⟨Rp.prod a.CE.1 b.CE.1,Nat.add_pos_left a.CE.2 _⟩
 | .slice a=>⟨Rp.slice a.CE.1 a.CE.2,Nat.one_pos⟩
 | .ext e a=>⟨pv e a.CE.1 a.CE.2,Nat.one_pos⟩
def Ty.rp (t:Ty):Rp t.den:=t.CE.1
theorem Ty.pos (t:Ty):0 < t.rp.size:=t.CE.2
def Ty.size:Ty->Nat
 | .prod a b=>a.size+b.size
 | _=>1
theorem Ty.bW (t:Ty):t.rp.size=t.size:=by
 induction t with
 | prod a b iha ihb=>show a.rp.size+b.rp.size=_; rw[iha,ihb]; rfl
 | _=>rfl
def Ty.isAgg:Ty->Bool
 | .prod _ _=>true
 | _=>false
def Ty.flat:Ty->Bool
 | .prod a b=>a.flat && b.flat
 | .slice _=>false
 | .ext _ _=>false
 | _=>true
def Ty.plain:Ty->Bool
 | .prod a b=>a.plain && b.plain
 | .slice a=>a.plain
 | .ext _ _=>false
 | _=>true
def Ty.zero:(t:Ty)->t.den
 | .int=>(0:Int)
 | .bool=>false
 | .str=>empty
 | .u8=>(0:Int)
 | .dr _=>()
 | .prod a b=>(a.zero,b.zero)
 | .slice _=>[]
 | .ext _ _=>none
abbrev aL:=(t:Ty) × t.den
abbrev sF:=(t:Ty) × List t.den
inductive AV where
 | ke
 | sc (v:Value)
 | sl (t:Ty) (l:List t.den)
 | fx (v:Value) (t:Ty) (l:List t.den)
 | ex (e:Ex) (t:Ty) (x:Option t.den)
 | iQ (f:FuncId) (ks:List Nat)
 | row (k ver:Nat)
 | ptr (k off:Nat)
 | pL (k ver i off:Nat)
 | wk (k i s off:Nat)
 | mX (k ver off:Nat)
 | ref (t:Ty) (x:t.den) (off:Nat)
 | agg (cs:List AV)
 | dY (vs:List AV)
 | nb (p q:Prop)
inductive Ah where
 | map (g:List ((Int × Int × Int) × Bool))
 | je (e:TypeId) (t:Ty) (l:List t.den)
inductive ay where
 | bx (x:Option Nat) (cs:List AV)
 | ob (x:Option Value) (ver:Nat) (d:Ah)
 | row (e:TypeId) (t:Ty) (ver:Nat) (ow:Bool) (l:List t.den)
 | cU (t:Ty) (l:List t.den)
 | cu (t:Ty) (l:List t.den)
 | jH (t:Ty) (ver:Nat) (l:List t.den)
 | dead
@[match_pattern,reducible] def ay.box (cs:List AV):ay:=.bx none cs
abbrev Tm:=List (Nat × AV)
abbrev Mm:=List (Nat × ay)
structure St where
 tmps:Tm
 mem:Mm
def look {α:Type}:List (Nat × α)->Nat->Option α
 | [],_=>none
 | (k,v) :: l,d=>if d=k then some v else look l d
theorem look_nil {α:Type} (d:Nat):look ([]:List (Nat × α)) d=none:=(rfl)
theorem RW {α:Type} (k:Nat) (v:α) (l:List (Nat × α)) (d:Nat):look ((k,v) :: l) d=if d=k then some v else look l d:=(rfl)
theorem aD {α:Type} (k:Nat) (v:α) (l:List (Nat × α)):look ((k,v) :: l) k=some v:=by simp[look]
theorem aG {α:Type} {k d:Nat} (v:α) (l:List (Nat × α)) (h:d ≠ k):look ((k,v) :: l) d=look l d:=by simp[look,h]
theorem a8 {α:Type} (l m:List (Nat × α)) (d:Nat):look (l++m) d=(look l d).or (look m d):=by
 induction l with
 | nil=>simp[look]
 | cons x l ih =>
  obtain⟨k,v⟩:=x
  simp only[cons_append,look]
  split
  ·simp
  ·exact ih
def aA {α β:Type} (R:α->β->Prop):List α->List β->Prop
 | [],[]=>True
 | a :: l,b :: m=>R a b/\aA R l m
 | _,_=>False
theorem aA.len {α β:Type} {R:α->β->Prop}:∀{l:List α} {m:List β},aA R l m->l.length=m.length
 | [],[],_=>rfl
 | _ :: _,_ :: _,h=>by simp[aA.len h.2]
 | [],_ :: _,h=>h.elim
 | _ :: _,[],h=>h.elim
theorem aA.mono {α β:Type} {R R':α->β->Prop}:∀{l:List α} {m:List β},(∀a b,a ∈ l->R a b->R' a b)->aA R l m->aA R' l m
 | [],[],_,_=>trivial
 | a :: l,b :: m,h,⟨h1,h2⟩=>⟨h a b mem_cons_self h1,aA.mono (fun a b ha=>h a b (mem_cons_of_mem _ ha)) h2⟩
 | [],_ :: _,_,h=>h.elim
 | _ :: _,[],_,h=>h.elim
theorem aA.get {α β:Type} {R:α->β->Prop}:∀{l:List α} {m:List β} {i:Nat} {a:α},aA R l m->l[i]? = some a->∃b,m[i]? = some b/\R a b
 | [],_,i,a,_,h=>by simp at h
 | _ :: _,_ :: _,0,a,⟨h1,_⟩,h=>by simp at h; subst h; exact⟨_,rfl,h1⟩
 | _ :: _,_ :: _,i+1,a,⟨_,h2⟩,h=>by simp at h; simpa using aA.get h2 h
 | _ :: _,[],_,_,h,_=>h.elim
theorem aA.app {α β:Type} {R:α->β->Prop}:∀{l l':List α} {m m':List β},aA R l m->aA R l' m'->aA R (l++l') (m++m')
 | [],_,[],_,_,h=>h
 | _ :: _,_,_ :: _,_,⟨h1,h2⟩,h=>⟨h1,aA.app h2 h⟩
 | [],_,_ :: _,_,h,_=>h.elim
 | _ :: _,_,[],_,h,_=>h.elim
theorem aA.take {α β:Type} {R:α->β->Prop}:∀{l:List α} {m:List β} (n:Nat),aA R l m->aA R (l.take n) (m.take n)
 | _,_,0,_=>by simp[aA]
 | [],[],_+1,_=>by simp[aA]
 | _ :: _,_ :: _,n+1,⟨h1,h2⟩=>⟨h1,aA.take n h2⟩
 | [],_ :: _,_,h=>h.elim
 | _ :: _,[],_,h=>h.elim
theorem aA.drop {α β:Type} {R:α->β->Prop}:∀{l:List α} {m:List β} (n:Nat),aA R l m->aA R (l.drop n) (m.drop n)
 | _,_,0,h=>h
 | [],[],_+1,_=>trivial
 | _ :: _,_ :: _,n+1,⟨_,h2⟩=>aA.drop n h2
 | [],_ :: _,_,h=>h.elim
 | _ :: _,[],_,h=>h.elim
theorem aA.set {α β:Type} {R:α->β->Prop}:∀{l:List α} {m:List β} (i:Nat) {a:α} {b:β},aA R l m->R a b->aA R (l.set i a) (m.set i b)
 | [],[],_,_,_,_,_=>trivial
 | _ :: _,_ :: _,0,_,_,⟨_,h2⟩,h=>⟨h,h2⟩
 | _ :: _,_ :: _,i+1,_,_,⟨h1,h2⟩,h=>⟨h1,aA.set i h2 h⟩
 | [],_ :: _,_,_,_,h,_=>h.elim
 | _ :: _,[],_,_,_,h,_=>h.elim
def jO:Value->Prop
 | .int .i64 n=>bU n
 | .int .u8 n=>0<=n/\n<=255
 | .string s=>s.size<=maxLen
 | _=>True
theorem lC.ok (k:lC):jO k.val:=by cases k<;>trivial
structure Cx where
 base:Nat
 w0:World
 S:Nat->Prop
 n:Nat
 X:Nat->Prop
structure aC where
 β:Nat->Nat
 hd:Nat->Value
 fp:Nat->List Nat
def aC.loc (Γ:aC) (k:Nat) (x:Option Nat):Nat:=x.getD (Γ.β k)
def Hm (c:Cx) (x:Option Nat) (b:Nat):Prop :=
 match x with
 | none=>c.base<=b
 | some _=>c.X b
theorem Hm.or {c:Cx} {x:Option Nat} {b:Nat} (h:Hm c x b):c.base<=b\/c.X b:=by cases x; exact .inl h; exact .inr h
structure ep (X:Nat->Prop) (n:Nat) (w w':World):Prop where
 os:w'.os=w.os
 tape:w'.tape=w.tape
 output:w'.output=w.output
 size:w.heap.size<=w'.heap.size
 block:∀b,b < n->¬ X b->w'.heap[b]? = w.heap[b]?
theorem ep.trans {X:Nat->Prop} {n:Nat} {w w1 w2:World} (h:ep X n w w1) (g:ep X n w1 w2):ep X n w w2:=⟨g.os.trans h.os,g.tape.trans h.tape,g.output.trans h.output,le_trans h.size g.size,fun b hb hx=>(g.block b hb hx).trans (h.block b hb hx)⟩
theorem ep.of {X:Nat->Prop} {n:Nat} {w w':World} (h:Below n w w'):ep X n w w':=⟨h.os,h.tape,h.output,h.size,fun b hb _=>h.block b hb⟩
theorem ep.to {n:Nat} {w w':World} (h:ep (fun _=>False) n w w'):Below n w w':=⟨h.os,h.tape,h.output,h.size,fun b hb=>h.block b hb id⟩
def Hr (c:Cx) (b:Nat):Prop:=c.base<=b\/c.X b/\c.S b
theorem Hr.or {c:Cx} {b:Nat} (h:Hr c b):c.base<=b\/c.X b:=h.imp id And.left
theorem Hr.gd {c:Cx} {b:Nat} (h:Hr c b):c.S b\/c.base<=b:=h.elim .inr fun h=>.inl h.2
def aC.ov (Γ:aC) (k:Nat) (x:Option Value):Value:=x.getD (Γ.hd k)
def lJ:Ah->Value->Option Nat
 | .je ..,v=>v.ownBlock
 | .map _,.map (some m)=>some m
 | .map _,_=>none
def Ho (c:Cx) (x:Option Value) (b:Nat):Prop :=
 match x with
 | none=>Hr c b
 | some _=>c.X b
theorem Ho.or {c:Cx} {x:Option Value} {b:Nat} (h:Ho c x b):c.base<=b\/c.X b:=by cases x; exact Hr.or h; exact .inr h
def K3 (s:Int × Int × Int):Value:=.agg #[.int .i64 s.1,.int .i64 s.2.1,.int .i64 s.2.2]
def I3 (s:Int × Int × Int):Prop:=bU s.1/\bU s.2.1/\bU s.2.2
def Mw:List ((Int × Int × Int) × Bool)->Int × Int × Int->Option Bool
 | [],_=>none
 | p :: g,s=>if p.1=s then some p.2 else Mw g s
structure Xu (es:Array MapEntry) (g:List ((Int × Int × Int) × Bool)):Prop where
 size:es.size<=g.length
 key:∀e ∈ es.toList,∃s b,e.key=K3 s/\I3 s/\Mw g s=some b/\e.val=.bool b
 all:∀s b,Mw g s=some b->∃e ∈ es.toList,e.key=K3 s
 aek:es.toList.Pairwise fun e e'=>e.key ≠ e'.key
def Ah.I:Ah->Value->Obj->Prop
 | .map g,v,o=>(∃m,v=.map (some m))/\∃es ck,o=.map es ck/\Xu es g
 | .je e t l,v,o=>∃b off cap us,v=.slice (some ⟨b,off,none⟩) l.length cap/\o=.cells us e (0,0)/\l.length<=cap/\cap<=maxLen/\off+cap * t.rp.size<=us.size ∧
   ∀w i x,l[i]? = some x->∃cs,t.rp.rep w cs x []/\∀j u,cs[j]? = some u->us.toList[off+i * t.rp.size+j]? = some u
def ay.mut (B:ay) (Γ:aC) (k b:Nat):Prop :=
 match B with
 | .bx x _=>b=Γ.loc k x
 | .row ..=>(Γ.hd k).ownBlock=some b
 | .cu ..=>b ∈ Γ.fp k
 | .ob x _ d=>lJ d (Γ.ov k x)=some b
 | _=>False
def iB (M:Mm) (Γ:aC) (b:Nat):Prop:=∃k B,look M k=some B/\B.mut Γ k b
def Gd (c:Cx) (M:Mm) (Γ:aC) (b:Nat):Prop:=(c.S b\/c.base<=b)/\¬ iB M Γ b
def ay.bY (B:ay) (Γ:aC) (k:Nat):List Nat :=
 match B with
 | .row _ _ _ true _=>Γ.fp k
 | .cU ..=>Γ.fp k
 | _=>[]
def BH (c:Cx) (M:Mm) (Γ:aC) (w:World) (B:ay) (k ver:Nat) (u:Value):Prop :=
 match B with
 | .row _ _ v _ _=>ver<=v/\(v=ver->u=Γ.hd k)
 | .cU _ _=>ver=0->u=Γ.hd k
 | .cu _ _=>ver=0->u=Γ.hd k
 | .ob x v _=>ver<=v/\(v=ver->u=Γ.ov k x)
 | .bx x _=>u=.slice (some ⟨Γ.loc k x,0,none⟩) ver ver/\ver<=maxLen
 | .jH t v l=>v=ver->∃fp,(Rp.slice t.rp t.pos).rep w [u] l fp/\∀b ∈ fp,Gd c M Γ b
 | _=>True
def AZ (M:Mm) (Γ:aC) (k:Nat) (p:Value):Prop:=∃x cs,look M k=some (.bx x cs)/\p=.pointer (some ⟨Γ.loc k x,0,none⟩)
def aQ (c:Cx) (M:Mm) (Γ:aC) (w:World):AV->Value->Prop
 | .sc v,u=>u=v/\v.oneCell'=true/\jO v
 | .sl t l,u=>∃fp,(Rp.slice t.rp t.pos).rep w [u] l fp/\∀b ∈ fp,Gd c M Γ b
 | .fx v t l,u=>u=v/\∃fp,(Rp.slice t.rp t.pos).rep w [u] l fp/\∀b ∈ fp,Gd c M Γ b
 | .ex e t x,u=>∃fp,(pv e t.rp t.pos).rep w [u] x fp/\∀b ∈ fp,Gd c M Γ b
 | .iQ f ks,u=>∃us,u=.func (.func f) #[] us.toArray/\aA (AZ M Γ) ks us
 | .row k ver,u=>u.oneCell'=true/\∃B,look M k=some B/\BH c M Γ w B k ver u
 | .ptr k off,u=>∃x cs,look M k=some (.bx x cs)/\u=.pointer (some ⟨Γ.loc k x,off,none⟩)
 | .pL k ver i off,u=>u.oneCell'=true/\∃B,look M k=some B/\∀e t v o l,B=.row e t v o l->ver<=v/\(v=ver->∃g n cap,Γ.hd k=.slice (some ⟨g,0,none⟩) n cap/\u=.pointer (some ⟨g,i * t.rp.size+off,none⟩))
 | .wk k i s off,u=>u.oneCell'=true/\∃B,look M k=some B/\∀t l,B=.cu t l->∃g o n cap,Γ.hd k=.slice (some ⟨g,o,none⟩) n cap/\u=.pointer (some ⟨g,o+i * s+off,none⟩)
 | .mX k ver off,u=>u.oneCell'=true/\∃B,look M k=some B/\∀x v d,B=.ob x v d->ver<=v/\(v=ver->∃g o n cap,Γ.ov k x=.slice (some ⟨g,o,none⟩) n cap/\u=if off=0 then .pointer (some ⟨g,o,none⟩) else .slice (some ⟨g,o,none⟩) off cap)
 | .nb p q,u=>∃b:Bool,u=.bool b/\(b=true->p)/\(b=false->q)
 | .ref t x off,u=>∃b o cs fp,u=.pointer (some ⟨b,o+off,none⟩)/\t.rp.rep w cs x fp/\(∀j v,cs[j]? = some v->w.cell? ⟨b,o+j,none⟩=some v)/\Gd c M Γ b/\(∀b' ∈ fp,Gd c M Γ b')/\b < w.heap.size
 | _,_=>False
def bq (c:Cx) (M:Mm) (Γ:aC) (w:World):AV->Value->Prop
 | .agg cs,u=>∃us,u=.agg us.toArray/\aA (aQ c M Γ w) cs us
 | v,u=>aQ c M Γ w v u
def aR (c:Cx) (M:Mm) (Γ:aC) (w:World):AV->Value->Prop
 | .ke,_=>True
 | .dY vs,u=>∃us,u=.tuple us.toArray/\aA (bq c M Γ w) vs us
 | v,u=>bq c M Γ w v u
theorem aQ.one {c:Cx} {M:Mm} {Γ:aC} {w:World} {v:AV} {u:Value} (h:aQ c M Γ w v u):u.oneCell'=true:=by
 cases v with
 | sc v=>obtain⟨rfl,h,_⟩:=h; exact h
 | sl t l=>obtain⟨fp,h,_⟩:=h; exact (Rp.slice t.rp t.pos).one h u ah
 | fx v t l=>obtain⟨_,fp,h,_⟩:=h; exact (Rp.slice t.rp t.pos).one h u ah
 | ex e t x=>obtain⟨fp,h,_⟩:=h; exact (pv e t.rp t.pos).one h u ah
 | iQ f ks=>obtain⟨us,rfl,_⟩:=h; rfl
 | row k ver=>exact h.1
 | ptr k off=>obtain⟨x,cs,_,rfl⟩:=h; rfl
 | pL k ver i off=>exact h.1
 | wk k i s off=>exact h.1
 | mX k ver off=>exact h.1
 | ref t x off=>obtain⟨b,o,cs,fp,rfl,_⟩:=h; rfl
 | nb p q=>obtain⟨b,rfl,_⟩:=h; rfl
 | _=>exact h.elim
def bh {α:Type} (A:Rp α) (base:Nat) (w:World) (e:TypeId) (v:Value) (l:List α) (fps:List (List Nat)):Prop :=
 ∃xs:List Value,w.ownsRow base e A.size v l.length xs/\fps.length=l.length ∧
  (∀i x,l[i]? = some x->∃f cs,fps[i]? = some f/\A.rep w cs x f/\∀j d,cs[j]? = some d->xs[i * A.size+j]? = some d)
def gx (c:Cx) (w:World) (fp:List Nat):Prop:=fp.Nodup/\∀b ∈ fp,Hr c b/\pU w b
def jm (c:Cx) (t:Ty) (w:World) (e:TypeId) (v:Value) (l:List t.den) (fps:List (List Nat)):Prop:=bh t.rp 0 w e v l fps/\∀b,v.ownBlock=some b->Hr c b
def aaa (c:Cx) (M:Mm) (Γ:aC) (w:World) (B:ay) (k:Nat):Prop :=
 match B with
 | .bx x cs=>Hm c x (Γ.loc k x)/\∃us e,w.heap[Γ.loc k x]? = some (.cells us e (0,0))/\aA (aQ c M Γ w) cs us.toList
 | .row e t _ o l=>∃fps,jm c t w e (Γ.hd k) l fps/\Γ.fp k=fps.flatten/\(∀b ∈ Γ.fp k,Gd c M Γ b)/\(o=true->gx c w (Γ.fp k))
 | .cU t l=>(Rp.slice t.rp t.pos).rep w [Γ.hd k] l (Γ.fp k)/\(∀b ∈ Γ.fp k,Gd c M Γ b)/\gx c w (Γ.fp k)
 | .cu t l=>(Rp.slice t.rp t.pos).rep w [Γ.hd k] l (Γ.fp k)/\gx c w (Γ.fp k)
 | .ob x _ d=>∃b o,lJ d (Γ.ov k x)=some b/\Ho c x b/\w.heap[b]? = some o/\d.I (Γ.ov k x) o
 | _=>True
structure aH (c:Cx) (σ:St) (Γ:aC) (a:Act) (w:World):Prop where
 tm:∀d v,look σ.tmps d=some v->∃u,a.tmps[d]? = some u/\aR c σ.mem Γ w v u
 mm:∀k B,look σ.mem k=some B->aaa c σ.mem Γ w B k
 inj:∀k k' B B' b,look σ.mem k=some B->look σ.mem k'=some B'->B.mut Γ k b->B'.mut Γ k' b->k=k'
 pX:∀k k' B B' b,look σ.mem k=some B->look σ.mem k'=some B'->k ≠ k'->b ∈ B.bY Γ k->b ∉ B'.bY Γ k'
 below:ep c.X c.base c.w0 w
 hb:c.base<=w.heap.size
 defs:a.defers=[]
 sz:a.tmps.size=c.n
theorem Gp {w w':World} {base:Nat} {e:TypeId} {size n:Nat} {v:Value} {xs:List Value} (h:w.ownsRow base e size v n xs) (hf:∀b,v.ownBlock=some b->w'.heap[b]? = w.heap[b]?):w'.ownsRow base e size v n xs:=by
 refine⟨h.1,?_⟩
 rcases h.2 with hn|⟨g,cap,cur,rfl,hb,hg,rest⟩
 ·exact .inl hn
 ·exact .inr ⟨g,cap,cur,rfl,hb,(hf g rfl).trans hg,rest⟩
theorem bh.frame {α:Type} {A:Rp α} {base:Nat} {w w':World} {e:TypeId} {v:Value} {l:List α} {fps:List (List Nat)} (h:bh A base w e v l fps)
  (h1:∀b,v.ownBlock=some b->w'.heap[b]? = w.heap[b]?) (h2:∀b ∈ fps.flatten,w'.heap[b]? = w.heap[b]?):bh A base w' e v l fps:=by
 obtain⟨xs,ho,hl,he⟩:=h
 refine⟨xs,Gp ho h1,hl,fun i x hx=>?_⟩
 obtain⟨f,cs,hf,hr,hc⟩:=he i x hx
 exact⟨f,cs,hf,A.frame hr fun b hb=>h2 b (mem_flatten.2 ⟨f,mem_of_getElem? hf,hb⟩),hc⟩
theorem bh.lt {α:Type} {A:Rp α} {base:Nat} {w:World} {e:TypeId} {v:Value} {l:List α} {fps:List (List Nat)} (h:bh A base w e v l fps):∀b ∈ fps.flatten,b < w.heap.size:=by
 obtain⟨xs,ho,hl,he⟩:=h
 intro b hb
 obtain⟨f,hf,hbf⟩:=mem_flatten.1 hb
 obtain⟨i,hi,rfl⟩:=getElem_of_mem hf
 obtain⟨f',c',hf',hr',_⟩:=he i (l[i]'J) (getElem?_eq_getElem J)
 rw[getElem?_eq_getElem hi] at hf'
 injection hf' with hf'
 exact A.lt hr' b (hf' ▸ hbf)
theorem bh.own {α:Type} {A:Rp α} {base:Nat} {w:World} {e:TypeId} {v:Value} {l:List α} {fps:List (List Nat)} (h:bh A base w e v l fps) {b:Nat} (hb:v.ownBlock=some b):base<=b/\b < w.heap.size:=by
 obtain⟨xs,ho,_⟩:=h; exact ho.lt b hb
theorem jm.frame {c:Cx} {t:Ty} {w w':World} {e:TypeId} {v:Value} {l:List t.den} {fps:List (List Nat)} (h:jm c t w e v l fps)
  (h1:∀b,v.ownBlock=some b->w'.heap[b]? = w.heap[b]?) (h2:∀b ∈ fps.flatten,w'.heap[b]? = w.heap[b]?):jm c t w' e v l fps:=⟨bh.frame h.1 h1 h2,h.2⟩
theorem jm.lt {c:Cx} {t:Ty} {w:World} {e:TypeId} {v:Value} {l:List t.den} {fps:List (List Nat)} (h:jm c t w e v l fps):∀b ∈ fps.flatten,b < w.heap.size:=bh.lt h.1
theorem jm.own {c:Cx} {t:Ty} {w:World} {e:TypeId} {v:Value} {l:List t.den} {fps:List (List Nat)} (h:jm c t w e v l fps) {b:Nat} (hb:v.ownBlock=some b):Hr c b/\b < w.heap.size:=⟨h.2 b hb,(bh.own h.1 hb).2⟩
theorem Lx {w:World} {base:Nat} {e:TypeId} {size n:Nat} {v:Value} {xs:List Value} (h:w.ownsRow base e size v n xs):w.ownsRow 0 e size v n xs:=by
 refine⟨h.1,?_⟩
 rcases h.2 with hn|⟨g,cap,cur,rfl,hb,hg,rest⟩
 ·exact .inl hn
 ·exact .inr ⟨g,cap,cur,rfl,zero_le _,hg,rest⟩
theorem bh.low {α:Type} {A:Rp α} {base:Nat} {w:World} {e:TypeId} {v:Value} {l:List α} {fps:List (List Nat)} (h:bh A base w e v l fps):bh A 0 w e v l fps:=by
 obtain⟨xs,ho,hl,he⟩:=h
 exact⟨xs,Lx ho,hl,he⟩
theorem jm.of {c:Cx} {t:Ty} {w:World} {e:TypeId} {v:Value} {l:List t.den} {fps:List (List Nat)} (h:bh t.rp c.base w e v l fps):jm c t w e v l fps:=⟨h.low,fun _ hb=>.inl (bh.own h hb).1⟩
theorem jm.up {c:Cx} {t:Ty} {w:World} {e:TypeId} {v:Value} {l:List t.den} {fps:List (List Nat)} (h:jm c t w e v l fps) (hx:∀b,c.X b->¬ c.S b):bh t.rp c.base w e v l fps:=by
 obtain⟨⟨xs,ho,hl,he⟩,hr⟩:=h
 refine⟨xs,⟨ho.1,?_⟩,hl,he⟩
 rcases ho.2 with hn|⟨g,cap,cur,rfl,_,hg,rest⟩
 ·exact .inl hn
 ·exact .inr ⟨g,cap,cur,rfl,(hr g rfl).elim id fun h=>absurd h.2 (hx g h.1),hg,rest⟩
theorem pO (base:Nat) (w:World):kF base w []:=⟨List.nodup_nil,fun b hb=>by cases hb⟩
theorem cO (c:Cx) (w:World):gx c w []:=⟨List.nodup_nil,fun b hb=>by cases hb⟩
theorem dy {c:Cx} {w w':World} {fp:List Nat} (h:gx c w fp) (hf:∀b ∈ fp,w'.heap[b]? = w.heap[b]?):gx c w' fp :=
 ⟨h.1,fun b hb=>⟨(h.2 b hb).1,(h.2 b hb).2.frame (hf b hb)⟩⟩
theorem gx.of {c:Cx} {w:World} {fp:List Nat} (h:kF c.base w fp):gx c w fp:=⟨h.1,fun b hb=>⟨.inl (h.2 b hb).1,(h.2 b hb).2⟩⟩
theorem gx.up {c:Cx} {w:World} {fp:List Nat} (h:gx c w fp) (hx:∀b,c.X b->¬ c.S b):kF c.base w fp :=
 ⟨h.1,fun b hb=>⟨(h.2 b hb).1.elim id fun h=>absurd h.2 (hx b h.1),(h.2 b hb).2⟩⟩
section
variable {c:Cx} {σ:St} {Γ:aC} {a:Act} {w:World}
theorem aH.eE (h:aH c σ Γ a w) {k:Nat} {B:ay} (hk:look σ.mem k=some B) {b:Nat} (hb:B.mut Γ k b):(c.base<=b\/c.X b)/\b < w.heap.size:=by
 have hB:=h.mm k B hk
 cases B with
 | bx x cs=>obtain⟨h1,us,e,h2,_⟩:=hB; obtain rfl:b=Γ.loc k x:=hb; exact⟨h1.or,nG h2⟩
 | row e t v o l=>obtain⟨fps,hg,_⟩:=hB; exact⟨(hg.own hb).1.or,(hg.own hb).2⟩
 | cu t l=>exact⟨(hB.2.2 b hb).1.or,(hB.2.2 b hb).2.lt⟩
 | ob x v d =>
  obtain⟨b',o,h1,h2,h3,_⟩:=hB
  have hb':lJ d (Γ.ov k x)=some b:=hb
  rw[h1] at hb'
  injection hb' with hb'
  subst hb'
  exact⟨h2.or,nG h3⟩
 | _=>exact hb.elim
theorem aH.CT (h:aH c σ Γ a w) {k:Nat} {B:ay} (hk:look σ.mem k=some B) {b:Nat} (hb:b ∈ B.bY Γ k):b < w.heap.size:=by
 have hB:=h.mm k B hk
 cases B with
 | row e t v o l =>
  obtain⟨fps,hg,hf,_⟩:=hB
  cases o with
  | false=>simp[ay.bY] at hb
  | true=>exact hg.lt b (hf ▸ hb)
 | cU t l=>exact (Rp.slice t.rp t.pos).lt hB.1 b hb
 | _=>simp[ay.bY] at hb
structure pG (c:Cx) (σ:St) (Γ:aC) (w:World) (k:Nat) (B':ay) (Γ':aC) (w':World):Prop where
 hΓ:∀j,j ≠ k->Γ'.β j=Γ.β j/\Γ'.hd j=Γ.hd j/\Γ'.fp j=Γ.fp j
 os:w'.os=w.os
 tape:w'.tape=w.tape
 output:w'.output=w.output
 size:w.heap.size<=w'.heap.size
 heap:∀b,b < w.heap.size->(∀B,look σ.mem k=some B->¬ B.mut Γ k b)->w'.heap[b]? = w.heap[b]?
 hm:∀b,B'.mut Γ' k b->w.heap.size<=b\/∃B,look σ.mem k=some B/\B.mut Γ k b
 ho:∀b ∈ B'.bY Γ' k,∀j B,j ≠ k->look σ.mem j=some B->b ∉ B.bY Γ j
section
variable {k:Nat} {B':ay} {Γ':aC} {w':World}
theorem pG.mut (ch:pG c σ Γ w k B' Γ' w') {b:Nat} (hb:iB ((k,B') :: σ.mem) Γ' b):iB σ.mem Γ b\/w.heap.size<=b:=by
 obtain⟨j,B,hj,hm⟩:=hb
 by_cases hjk:j=k
 ·subst hjk
  rw[aD] at hj
  injection hj with hj
  subst hj
  rcases ch.hm b hm with h|⟨B,h1,h2⟩
  ·exact .inr h
  ·exact .inl ⟨j,B,h1,h2⟩
 ·rw[aG _ _ hjk] at hj
  obtain⟨e1,e2,e3⟩:=ch.hΓ j hjk
  refine .inl ⟨j,B,hj,?_⟩
  cases B<;>simp only[ay.mut,aC.loc,aC.ov,e1,e2,e3] at hm ⊢<;>exact hm
theorem pG.gd (ch:pG c σ Γ w k B' Γ' w') {b:Nat} (hb:Gd c σ.mem Γ b) (hl:b < w.heap.size):Gd c ((k,B') :: σ.mem) Γ' b :=
 ⟨hb.1,fun hm=>(ch.mut hm).elim hb.2 J⟩
theorem pG.same (ch:pG c σ Γ w k B' Γ' w') {b:Nat} (hb:Gd c σ.mem Γ b) (hl:b < w.heap.size):w'.heap[b]? = w.heap[b]? :=
 ch.heap b hl fun B hB hm=>hb.2 ⟨k,B,hB,hm⟩
theorem pG.rep (ch:pG c σ Γ w k B' Γ' w') {α:Type} {A:Rp α} {cs:List Value} {x:α} {fp:List Nat} (hr:A.rep w cs x fp) (hg:∀b ∈ fp,Gd c σ.mem Γ b) :
  A.rep w' cs x fp/\∀b ∈ fp,Gd c ((k,B') :: σ.mem) Γ' b :=
 ⟨A.frame hr fun b hb=>ch.same (hg b hb) (A.lt hr b hb),fun b hb=>ch.gd (hg b hb) (A.lt hr b hb)⟩
theorem pG.Pd (ch:pG c σ Γ w k B' Γ' w')
  (hrow:∀ver u,aQ c σ.mem Γ w (.row k ver) u->BH c ((k,B') :: σ.mem) Γ' w' B' k ver u)
  (helm:∀ver i off u,aQ c σ.mem Γ w (.pL k ver i off) u->aQ c ((k,B') :: σ.mem) Γ' w' (.pL k ver i off) u)
  (hptr:∀x cs,look σ.mem k=some (.bx x cs)->(∃cs',B'=.bx x cs')/\Γ'.loc k x=Γ.loc k x) (hnm:∀t l,B' ≠ .cu t l) (helo:(∀x v d,B' ≠ .ob x v d)\/∀ver off u,aQ c σ.mem Γ w (.mX k ver off) u->aQ c ((k,B') :: σ.mem) Γ' w' (.mX k ver off) u) {v:AV} {u:Value} (h:aQ c σ.mem Γ w v u):aQ c ((k,B') :: σ.mem) Γ' w' v u:=by
 cases v with
 | sc v=>exact h
 | sl t l=>obtain⟨fp,hr,hg⟩:=h; obtain⟨h1,h2⟩:=ch.rep hr hg; exact⟨fp,h1,h2⟩
 | fx v t l=>obtain⟨hv,fp,hr,hg⟩:=h; obtain⟨h1,h2⟩:=ch.rep hr hg; exact⟨hv,fp,h1,h2⟩
 | ex e t x=>obtain⟨fp,hr,hg⟩:=h; obtain⟨h1,h2⟩:=ch.rep hr hg; exact⟨fp,h1,h2⟩
 | iQ f ks =>
  obtain⟨us,rfl,hk⟩:=h
  refine⟨us,rfl,hk.mono fun j u _ hj=>?_⟩
  obtain⟨x,cs,hc,rfl⟩:=hj
  by_cases hj:j=k
  ·subst hj
   obtain⟨⟨cs',rfl⟩,e⟩:=hptr x cs hc
   exact⟨x,cs',aD ..,by rw[e]⟩
  ·exact⟨x,cs,by rw[aG _ _ hj]; exact hc,by unfold aC.loc; rw[(ch.hΓ j hj).1]⟩
 | row j ver =>
  by_cases hj:j=k
  ·subst hj; exact⟨h.1,B',aD ..,hrow ver u h⟩
  ·obtain⟨h1,B,hB,hh⟩:=h
   refine⟨h1,B,by rw[aG _ _ hj]; exact hB,?_⟩
   obtain⟨_,e2,_⟩:=ch.hΓ j hj
   cases B with
   | row e t v o l=>simp only[BH,e2] at hh ⊢; exact hh
   | cU t l=>simp only[BH,e2] at hh ⊢; exact hh
   | cu t l=>simp only[BH,e2] at hh ⊢; exact hh
   | ob x v d=>simp only[BH,aC.ov,e2] at hh ⊢; exact hh
   | bx x cs=>simp only[BH,aC.loc,(ch.hΓ j hj).1] at hh ⊢; exact hh
   | jH t v l =>
    intro e
    obtain⟨fp,hr,hg⟩:=hh e
    obtain⟨h1,h2⟩:=ch.rep hr hg
    exact⟨fp,h1,h2⟩
   | _=>trivial
 | ptr j off =>
  obtain⟨x,cs,hc,rfl⟩:=h
  by_cases hj:j=k
  ·subst hj
   obtain⟨⟨cs',rfl⟩,e⟩:=hptr x cs hc
   exact⟨x,cs',aD ..,by rw[e]⟩
  ·exact⟨x,cs,by rw[aG _ _ hj]; exact hc,by unfold aC.loc; rw[(ch.hΓ j hj).1]⟩
 | wk j i s off =>
  obtain⟨h1,B,hB,hh⟩:=h
  by_cases hj:j=k
  ·subst hj; exact⟨h1,B',aD ..,fun t l e=>absurd e (hnm t l)⟩
  ·exact⟨h1,B,by rw[aG _ _ hj]; exact hB,by rw[(ch.hΓ j hj).2.1]; exact hh⟩
 | mX j ver off =>
  by_cases hj:j=k
  ·subst hj
   rcases helo with h2|h2
   ·exact⟨h.1,B',aD ..,fun x v d e=>absurd e (h2 x v d)⟩
   ·exact h2 ver off u h
  ·obtain⟨h1,B,hB,hh⟩:=h
   refine⟨h1,B,by rw[aG _ _ hj]; exact hB,?_⟩
   unfold aC.ov at hh ⊢
   rw[(ch.hΓ j hj).2.1]
   exact hh
 | pL j ver i off =>
  by_cases hj:j=k
  ·subst hj; exact helm ver i off u h
  ·obtain⟨h1,B,hB,hh⟩:=h
   refine⟨h1,B,by rw[aG _ _ hj]; exact hB,?_⟩
   rw[(ch.hΓ j hj).2.1]
   exact hh
 | ref t x off =>
  obtain⟨b,o,cs,fp,rfl,hr,hc,hgb,hg,hl⟩:=h
  obtain⟨h1,h2⟩:=ch.rep hr hg
  exact⟨b,o,cs,fp,rfl,h1,fun j v hv=>(lz (ch.same hgb hl)).trans (hc j v hv),ch.gd hgb hl,h2,lt_of_lt_of_le hl ch.size⟩
 | _=>exact h
theorem xu {M M':Mm} {Γ Γ':aC} {w w':World} (hc:∀v u,aQ c M Γ w v u->aQ c M' Γ' w' v u) {v:AV} {u:Value} (h:bq c M Γ w v u):bq c M' Γ' w' v u:=by
 cases v with
 | agg cs=>obtain⟨us,rfl,h⟩:=h; exact⟨us,rfl,h.mono fun v u _=>hc v u⟩
 | _=>simp only[bq] at h ⊢; exact hc _ _ h
theorem pN {M M':Mm} {Γ Γ':aC} {w w':World} (hc:∀v u,aQ c M Γ w v u->aQ c M' Γ' w' v u) {v:AV} {u:Value} (h:aR c M Γ w v u):aR c M' Γ' w' v u:=by
 cases v with
 | ke=>trivial
 | dY vs=>obtain⟨us,rfl,h⟩:=h; exact⟨us,rfl,h.mono fun v u _=>xu hc⟩
 | _=>simp only[aR] at h ⊢; exact xu hc h
theorem aH.yf (h:aH c σ Γ a w) (ch:pG c σ Γ w k B' Γ' w')
  (hrow:∀ver u,aQ c σ.mem Γ w (.row k ver) u->BH c ((k,B') :: σ.mem) Γ' w' B' k ver u)
  (helm:∀ver i off u,aQ c σ.mem Γ w (.pL k ver i off) u->aQ c ((k,B') :: σ.mem) Γ' w' (.pL k ver i off) u)
  (hptr:∀x cs,look σ.mem k=some (.bx x cs)->(∃cs',B'=.bx x cs')/\Γ'.loc k x=Γ.loc k x)
  (hB:(∀v u,aQ c σ.mem Γ w v u->aQ c ((k,B') :: σ.mem) Γ' w' v u)->aaa c ((k,B') :: σ.mem) Γ' w' B' k) (hnm:∀t l,B' ≠ .cu t l:=by intro t l h; cases h) (helo:(∀x v d,B' ≠ .ob x v d)\/∀ver off u,aQ c σ.mem Γ w (.mX k ver off) u->aQ c ((k,B') :: σ.mem) Γ' w' (.mX k ver off) u:=by exact .inl (by intro x v d h; cases h)):aH c ⟨σ.tmps,(k,B') :: σ.mem⟩ Γ' a w':=by
 have hcr:∀v u,aQ c σ.mem Γ w v u->aQ c ((k,B') :: σ.mem) Γ' w' v u:=fun v u=>ch.Pd hrow helm hptr hnm helo
 have hmutj:∀j B b,j ≠ k->look σ.mem j=some B->(B.mut Γ' j b ↔ B.mut Γ j b):=by
  intro j B b hj _
  obtain⟨e1,e2,e3⟩:=ch.hΓ j hj
  cases B<;>simp only[ay.mut,aC.loc,aC.ov,e1,e2,e3]
 have hofp:∀(j:Nat) (B:ay),j ≠ k->B.bY Γ' j=B.bY Γ j:=by
  intro j B hj
  obtain⟨_,_,e3⟩:=ch.hΓ j hj
  cases B with
  | row e t v o l=>cases o<;>simp only[ay.bY,e3]
  | _=>simp only[ay.bY,e3]
 refine⟨fun d v hd=>?_,fun j B hj=>?_,fun j j' B C b hj hj' hb hb'=>?_,fun j j' B C b hj hj' hne hb=>?_,?_,le_trans h.hb ch.size,h.defs,h.sz⟩
 ·obtain⟨u,h1,h2⟩:=h.tm d v hd
  exact⟨u,h1,pN hcr h2⟩
 ·by_cases hjk:j=k
  ·subst hjk
   rw[aD] at hj
   injection hj with hj
   subst hj
   exact hB hcr
  ·rw[aG _ _ hjk] at hj
   have hold:=h.mm j B hj
   obtain⟨e1,e2,e3⟩:=ch.hΓ j hjk
   have hblk:∀b,B.mut Γ j b->w'.heap[b]? = w.heap[b]?:=fun b hb =>
    ch.heap b (h.eE hj hb).2 fun C hC hm=>hjk (h.inj j k B C b hj hC hb hm)
   cases B with
   | bx x cs =>
    obtain⟨h1,us,e,h2,h3⟩:=hold
    have el:Γ'.loc j x=Γ.loc j x:=by unfold aC.loc; rw[e1]
    exact⟨by rw[el]; exact h1,us,e,by rw[el,hblk _ rfl]; exact h2,h3.mono fun v u _=>hcr v u⟩
   | row e t v o l =>
    obtain⟨fps,hg,hf,hgd,hon⟩:=hold
    have hs:∀b ∈ Γ.fp j,w'.heap[b]? = w.heap[b]?:=fun b hb=>ch.same (hgd b hb) (hg.lt b (hf ▸ hb))
    exact⟨fps,by rw[e2]; exact hg.frame (fun b hb=>hblk b hb) (fun b hb=>hs b (hf ▸ hb)),by rw[e3]; exact hf,fun b hb=>ch.gd (hgd b (e3 ▸ hb)) (hg.lt b (hf ▸ e3 ▸ hb)),fun ho=>by rw[e3]; exact dy (hon ho) hs⟩
   | cU t l =>
    obtain⟨hr,hgd,hon⟩:=hold
    obtain⟨h1,h2⟩:=ch.rep hr hgd
    exact⟨by rw[e2,e3]; exact h1,by rw[e3]; exact h2,by rw[e3]; exact dy hon fun b hb=>ch.same (hgd b hb) ((Rp.slice t.rp t.pos).lt hr b hb)⟩
   | cu t l =>
    obtain⟨hr,hon⟩:=hold
    exact⟨by rw[e2,e3]; exact (Rp.slice t.rp t.pos).frame hr fun b hb=>hblk b hb,by rw[e3]; exact dy hon fun b hb=>hblk b hb⟩
   | ob x v d =>
    obtain⟨b,o,h1,h2,h3,h4⟩:=hold
    have eo:Γ'.ov j x=Γ.ov j x:=by unfold aC.ov; rw[e2]
    exact⟨b,o,by rw[eo]; exact h1,h2,(hblk b h1).trans h3,by rw[eo]; exact h4⟩
   | _=>trivial
 ·by_cases h1:j=k<;>by_cases h2:j'=k
  ·rw[h1,h2]
  ·subst h1
   rw[aD] at hj; injection hj with hj; subst hj
   rw[aG _ _ h2] at hj'
   rw[hmutj j' C b h2 hj'] at hb'
   rcases ch.hm b hb with hlt|⟨B,hB1,hB2⟩
   ·have:=(h.eE hj' hb').2; omega
   ·exact h.inj _ _ _ _ b hB1 hj' hB2 hb'
  ·subst h2
   rw[aD] at hj'; injection hj' with hj'; subst hj'
   rw[aG _ _ h1] at hj
   rw[hmutj j B b h1 hj] at hb
   rcases ch.hm b hb' with hlt|⟨B2,hB1,hB2⟩
   ·have:=(h.eE hj hb).2; omega
   ·exact h.inj _ _ _ _ b hj hB1 hb hB2
  ·rw[aG _ _ h1] at hj; rw[aG _ _ h2] at hj'
   rw[hmutj j B b h1 hj] at hb; rw[hmutj j' C b h2 hj'] at hb'
   exact h.inj _ _ _ _ b hj hj' hb hb'
 ·by_cases h1:j=k
  ·subst h1
   rw[aD] at hj; injection hj with hj; subst hj
   rw[aG _ _ (Ne.symm hne)] at hj'
   rw[hofp j' C (Ne.symm hne)]
   exact ch.ho b hb j' C (Ne.symm hne) hj'
  ·rw[aG _ _ h1] at hj
   rw[hofp j B h1] at hb
   by_cases h2:j'=k
   ·subst h2
    rw[aD] at hj'; injection hj' with hj'; subst hj'
    intro hb'
    exact ch.ho b hb' j B h1 hj hb
   ·rw[aG _ _ h2] at hj'
    rw[hofp j' C h2]
    exact h.pX j j' B C b hj hj' hne hb
 ·exact h.below.trans ⟨ch.os,ch.tape,ch.output,ch.size,fun b hb hx=>ch.heap b (lt_of_lt_of_le hb h.hb) fun B hB hm=>by rcases (h.eE hB hm).1 with h1|h1; exact absurd h1 J; exact hx h1⟩
end
theorem vO {M:Mm} {w':World} (hb:Below w.heap.size w w') {v:AV} {u:Value} (h:aQ c M Γ w v u):aQ c M Γ w' v u:=by
 cases v with
 | sl t l=>obtain⟨fp,hr,hg⟩:=h; exact⟨fp,(Rp.slice t.rp t.pos).frame hr fun b hbb=>hb.block b ((Rp.slice t.rp t.pos).lt hr b hbb),hg⟩
 | fx v t l=>obtain⟨hv,fp,hr,hg⟩:=h; exact⟨hv,fp,(Rp.slice t.rp t.pos).frame hr fun b hbb=>hb.block b ((Rp.slice t.rp t.pos).lt hr b hbb),hg⟩
 | ex e t x=>obtain⟨fp,hr,hg⟩:=h; exact⟨fp,(pv e t.rp t.pos).frame hr fun b hbb=>hb.block b ((pv e t.rp t.pos).lt hr b hbb),hg⟩
 | row k ver =>
  obtain⟨h1,B,hB,hh⟩:=h
  refine⟨h1,B,hB,?_⟩
  cases B with
  | jH t v l=>intro e; obtain⟨fp,hr,hg⟩:=hh e; exact⟨fp,(Rp.slice t.rp t.pos).frame hr fun b hbb=>hb.block b ((Rp.slice t.rp t.pos).lt hr b hbb),hg⟩
  | _=>exact hh
 | ref t x off =>
  obtain⟨b,o,cs,fp,rfl,hr,hc,hgb,hg,hl⟩:=h
  exact⟨b,o,cs,fp,rfl,t.rp.frame hr fun b' hb'=>hb.block b' (t.rp.lt hr b' hb'),fun j v hv=>(lz (hb.block b hl)).trans (hc j v hv),hgb,hg,lt_of_lt_of_le hl hb.size⟩
 | _=>exact h
theorem aH.frame (h:aH c σ Γ a w) {w':World} (hb:Below w.heap.size w w'):aH c σ Γ a w':=by
 have hcr:∀v u,aQ c σ.mem Γ w v u->aQ c σ.mem Γ w' v u:=fun v u=>vO hb
 refine⟨fun d v hd=>?_,fun j B hj=>?_,h.inj,h.pX,h.below.trans (.of (hb.mono h.hb)),le_trans h.hb hb.size,h.defs,h.sz⟩
 ·obtain⟨u,h1,h2⟩:=h.tm d v hd
  exact⟨u,h1,pN hcr h2⟩
 ·have hold:=h.mm j B hj
  have hblk:∀b,B.mut Γ j b->w'.heap[b]? = w.heap[b]?:=fun b hm=>hb.block b (h.eE hj hm).2
  cases B with
  | bx x cs =>
   obtain⟨h1,us,e,h2,h3⟩:=hold
   exact⟨h1,us,e,by rw[hblk _ rfl]; exact h2,h3.mono fun v u _=>hcr v u⟩
  | row e t v o l =>
   obtain⟨fps,hg,hf,hgd,hon⟩:=hold
   have hs:∀b ∈ Γ.fp j,w'.heap[b]? = w.heap[b]?:=fun b hbb=>hb.block b (hg.lt b (hf ▸ hbb))
   exact⟨fps,hg.frame (fun b hbb=>hblk b hbb) (fun b hbb=>hs b (hf ▸ hbb)),hf,hgd,fun ho=>dy (hon ho) hs⟩
  | cU t l =>
   obtain⟨hr,hgd,hon⟩:=hold
   have hs:∀b ∈ Γ.fp j,w'.heap[b]? = w.heap[b]?:=fun b hbb=>hb.block b ((Rp.slice t.rp t.pos).lt hr b hbb)
   exact⟨(Rp.slice t.rp t.pos).frame hr hs,hgd,dy hon hs⟩
  | cu t l=>exact⟨(Rp.slice t.rp t.pos).frame hold.1 hblk,dy hold.2 hblk⟩
  | ob x v d =>
   obtain⟨b,o,h1,h2,h3,h4⟩:=hold
   exact⟨b,o,h1,h2,(hblk b h1).trans h3,h4⟩
  | _=>trivial
def St.put (σ:St) (d:Option Nat) (v:AV):St :=
 match d with
 | some d=>⟨(d,v) :: σ.tmps,σ.mem⟩
 | none=>σ
theorem aH.put (h:aH c σ Γ a w) {d:Option Nat} {v:AV} {u:Value} (hv:aR c σ.mem Γ w v u) (hd:∀x,d=some x->x < c.n):aH c (σ.put d v) Γ (a.put d u) w:=by
 cases d with
 | none=>exact h
 | some d =>
  refine⟨fun x y hx=>?_,h.mm,h.inj,h.pX,h.below,h.hb,h.defs,?_⟩
  ·have hlt:d < a.tmps.size:=by rw[h.sz]; exact hd d rfl
   by_cases hxd:x=d
   ·subst hxd
    simp only[St.put,aD] at hx
    injection hx with hx
    subst hx
    exact⟨u,by simp[Act.put,hlt],hv⟩
   ·simp only[St.put] at hx
    rw[aG _ _ hxd] at hx
    obtain⟨u',h1,h2⟩:=h.tm x y hx
    exact⟨u',by simp only[Act.put]; rw[Array.getElem?_setIfInBounds_ne (Ne.symm hxd)]; exact h1,h2⟩
  ·simp only[Act.put,Array.size_setIfInBounds]; exact h.sz
end
def aC.iZ (Γ:aC) (k b:Nat):aC:=⟨fun j=>if j=k then b else Γ.β j,Γ.hd,Γ.fp⟩
def aC.fB (Γ:aC) (k:Nat) (v:Value) (f:List Nat):aC:=⟨Γ.β,fun j=>if j=k then v else Γ.hd j,fun j=>if j=k then f else Γ.fp j⟩
theorem aC.D2 (Γ:aC) (k b:Nat):∀j,j ≠ k->(Γ.iZ k b).β j=Γ.β j/\(Γ.iZ k b).hd j=Γ.hd j/\(Γ.iZ k b).fp j=Γ.fp j:=fun j h=>⟨if_neg h,rfl,rfl⟩
theorem aC.ng (Γ:aC) (k:Nat) (v:Value) (f:List Nat):∀j,j ≠ k->(Γ.fB k v f).β j=Γ.β j/\(Γ.fB k v f).hd j=Γ.hd j/\(Γ.fB k v f).fp j=Γ.fp j:=fun j h=>⟨rfl,if_neg h,if_neg h⟩
theorem aC.cI (Γ:aC) (k:Nat) (v:Value) (f:List Nat):(Γ.fB k v f).hd k=v:=if_pos rfl
theorem aC.ib (Γ:aC) (k:Nat) (v:Value) (f:List Nat):(Γ.fB k v f).fp k=f:=if_pos rfl
theorem aC.iJ (Γ:aC) (k b:Nat):(Γ.iZ k b).β k=b:=if_pos rfl
theorem lW (w:World) (o:Obj):Below w.heap.size w (w.alloc o):=(Below.refl _ _).alloc (le_refl _) o
theorem EF {w:World} {o:Obj}:(w.alloc o).heap[w.heap.size]? = some o:=by show (w.heap.push o)[w.heap.size]? = some o; simp
section
variable {c:Cx} {σ:St} {Γ:aC} {a:Act} {w:World}
theorem aH.P8 (h:aH c σ Γ a w) {k:Nat} (hk:look σ.mem k=none) {cs:List AV} {us:Array Value} (e:TypeId) (hc:aA (aQ c σ.mem Γ w) cs us.toList) :
  aH c ⟨σ.tmps,(k,.box cs) :: σ.mem⟩ (Γ.iZ k w.heap.size) a (w.alloc (.cells us e)):=by
 have hne:∀v u,aQ c σ.mem Γ w v u->aQ c σ.mem Γ (w.alloc (.cells us e)) v u:=fun v u=>vO (lW w _)
 refine h.yf ⟨aC.D2 Γ k _,rfl,rfl,rfl,by simp,fun b hb _=>Below.heap_alloc w _ b hb,fun b hb=>.inl ?_,fun b hb=>by simp[ay.bY] at hb⟩ ?_ ?_ ?_ ?_
 ·have:b=(Γ.iZ k w.heap.size).β k:=hb
  rw[aC.iJ] at this; omega
 ·rintro ver u ⟨_,B,hB,_⟩; rw[hk] at hB; cases hB
 ·rintro ver i off u ⟨_,B,hB,_⟩; rw[hk] at hB; cases hB
 ·intro x cs hB; rw[hk] at hB; cases hB
 ·intro hcr
  exact⟨(by show c.base<=(Γ.iZ k w.heap.size).β k; rw[aC.iJ]; exact h.hb),us,e,by show (w.alloc _).heap[(Γ.iZ k w.heap.size).β k]? = _; rw[aC.iJ]; exact EF,hc.mono fun v u _ hv=>hcr v u hv⟩
theorem JG {α:Type} {cur cur' us:List α} {off:Nat} (hl:off+us.length<=cur.length) (hs:cur'.length=cur.length) (h1:∀j v,us[j]? = some v->cur'[off+j]? = some v)
  (h2:∀i,i < off\/off+us.length<=i->cur'[i]? = cur[i]?):cur'=cur.take off++us++cur.drop (off+us.length):=by
 apply List.ext_getElem?
 intro i
 rcases lt_or_ge i off with hi|hi
 ·rw[h2 i (.inl hi),append_assoc,List.getElem?_append_left (by rw[length_take]; omega),getElem?_take,if_pos hi]
 ·rcases lt_or_ge i (off+us.length) with hj|hj
  ·have hlt:i - off < us.length:=J
   have:=h1 (i - off) us[i - off] (getElem?_eq_getElem hlt)
   rw[show off+(i - off)=i from J] at this
   rw[this,List.getElem?_append_left (by rw[length_append,length_take]; omega),List.getElem?_append_right (by rw[length_take]; omega),length_take,Nat.min_eq_left J,getElem?_eq_getElem hlt]
  ·rw[h2 i (.inr hj),List.getElem?_append_right (by rw[length_append,length_take]; omega),getElem?_drop,length_append,length_take,Nat.min_eq_left J]
   congr 1; omega
theorem aH.aaL (h:aH c σ Γ a w) {k off:Nat} {x:Option Nat} {cs cs':List AV} {us:List Value} (hk:look σ.mem k=some (.bx x cs)) (hc:aA (aQ c σ.mem Γ w) cs' us) (hl:off+cs'.length<=cs.length) :
  aH c ⟨σ.tmps,(k,.bx x (cs.take off++cs'++cs.drop (off+cs'.length))) :: σ.mem⟩ Γ a (putCells w (Γ.loc k x) off us):=by
 obtain⟨hb,cur,e,hg,hcur⟩:=h.mm k _ hk
 have hlu:=hc.len
 have hlc:=hcur.len
 obtain⟨cur',g1,g2,g3,g4⟩:=xc (Γ.loc k x) e us w off cur hg (by simp at hlc; omega)
 have hbel:=tO (B:=Γ.loc k x) (w0:=w) (Γ.loc k x) us w off (Below.refl _ _) (le_refl _)
 refine h.yf ⟨fun j _=>⟨rfl,rfl,rfl⟩,hbel.os,hbel.tape,hbel.output,hbel.size,fun b _ hm=>lr _ _ _ _ _ ?_,fun b hb=>.inr ⟨_,hk,hb⟩,fun b hb=>by simp[ay.bY] at hb⟩ ?_ ?_ ?_ ?_
 ·intro e; exact hm _ hk e
 ·rintro ver u ⟨_,B,hB,_⟩; rw[hk] at hB; injection hB with hB; subst hB; trivial
 ·rintro ver i off u ⟨h1,B,hB,_⟩; exact⟨h1,_,aD ..,fun e t v o l hh=>by cases hh⟩
 ·intro x2 cs2 h2
  rw[hk] at h2
  injection h2 with h2
  injection h2 with h3 h4
  subst h3
  exact⟨⟨_,rfl⟩,rfl⟩
 ·intro hcr
  refine⟨hb,cur',e,g1,?_⟩
  have:cur'.toList=cur.toList.take off++us++cur.toList.drop (off+us.length):=by
   refine JG (by simp at hlc; simp; omega) (by simp[g2]) (fun j v hj=>?_) (fun i hi=>?_)
   ·rw[getElem?_toList]; exact g3 j v hj
   ·rw[getElem?_toList,getElem?_toList]; exact g4 i hi
  rw[this,<-hlu]
  have m1:=hcur.mono fun v u _=>hcr v u
  have m2:=hc.mono fun v u _=>hcr v u
  exact ((m1.take off).app m2).app (m1.drop _)
theorem aH.newRow (h:aH c σ Γ a w) {k:Nat} (hk:look σ.mem k=none) {w':World} (hb:Below w.heap.size w w') {e:TypeId} {t:Ty} {o:Bool} {l:List t.den} {v:Value} {fps:List (List Nat)}
  (hg0:bh t.rp c.base w' e v l fps) (hv:∀b,v.ownBlock=some b->w.heap.size<=b) (hgd:∀b ∈ fps.flatten,w.heap.size<=b/\v.ownBlock ≠ some b\/b < w.heap.size/\Gd c σ.mem Γ b)
  (ho:o=true->gx c w' fps.flatten/\∀b ∈ fps.flatten,∀j B,look σ.mem j=some B->b ∉ B.bY Γ j) :
  aH c ⟨σ.tmps,(k,.row e t 0 o l) :: σ.mem⟩ (Γ.fB k v fps.flatten) a w':=by
 have hg:jm c t w' e v l fps:=jm.of hg0
 have ch:pG c σ Γ w k (.row e t 0 o l) (Γ.fB k v fps.flatten) w':=by
  refine⟨aC.ng Γ k _ _,hb.os,hb.tape,hb.output,hb.size,fun b hlt _=>hb.block b hlt,fun b hm=>.inl (hv b ?_),fun b hf j B _ hj=>?_⟩
  ·have:((Γ.fB k v fps.flatten).hd k).ownBlock=some b:=hm
   rw[aC.cI] at this; exact this
  ·cases o with
   | false=>simp[ay.bY] at hf
   | true =>
    simp only[ay.bY,aC.ib] at hf
    exact (ho rfl).2 b hf j B hj
 refine h.yf ch ?_ ?_ ?_ ?_
 ·rintro ver u ⟨_,B,hB,_⟩; rw[hk] at hB; cases hB
 ·rintro ver i off u ⟨_,B,hB,_⟩; rw[hk] at hB; cases hB
 ·intro x cs hB; rw[hk] at hB; cases hB
 ·intro hcr
  refine⟨fps,by rw[aC.cI]; exact hg,aC.ib ..,fun b hbf=>?_,fun hoo=>by rw[aC.ib]; exact (ho hoo).1⟩
  rw[aC.ib] at hbf
  rcases hgd b hbf with ⟨h1,h2⟩|⟨h1,h2⟩
  ·refine⟨.inr (le_trans h.hb h1),?_⟩
   rintro⟨j,B,hj,hm⟩
   by_cases hjk:j=k
   ·subst hjk
    rw[aD] at hj; injection hj with hj; subst hj
    have:((Γ.fB j v fps.flatten).hd j).ownBlock=some b:=hm
    rw[aC.cI] at this; exact h2 this
   ·rw[aG _ _ hjk] at hj
    have hm':B.mut Γ j b:=by
     obtain⟨e1,e2,e3⟩:=aC.ng Γ k v fps.flatten j hjk
     cases B<;>simp only[ay.mut,aC.loc,aC.ov,e1,e2,e3] at hm ⊢<;>exact hm
    have:=(h.eE hj hm').2; omega
  ·exact ch.gd h2 h1
theorem aH.uH (h:aH c σ Γ a w) {k:Nat} {e:TypeId} {t:Ty} {ver ver':Nat} {o o':Bool} {l l':List t.den} (hk:look σ.mem k=some (.row e t ver o l)) {w':World} {v':Value} {fps':List (List Nat)}
  (hg0:bh t.rp 0 w' e v' l' fps') (hw:w.grownBy w' (Γ.hd k).ownBlock) (hv:v'.ownBlock=(Γ.hd k).ownBlock\/∀b,v'.ownBlock=some b->w.heap.size<=b)
  (hver:ver'=ver+1\/ver'=ver/\v'=Γ.hd k)
  (hgd:∀b ∈ fps'.flatten,b < w.heap.size/\Gd c σ.mem Γ b)
  (ho:o'=true->gx c w' fps'.flatten/\∀b ∈ fps'.flatten,∀j B,j ≠ k->look σ.mem j=some B->b ∉ B.bY Γ j) :
  aH c ⟨σ.tmps,(k,.row e t ver' o' l') :: σ.mem⟩ (Γ.fB k v' fps'.flatten) a w':=by
 have hg:jm c t w' e v' l' fps':=⟨hg0,fun b hb=>by
  rcases hv with hv|hv
  ·rw[hv] at hb
   obtain⟨_,hg1,_⟩:=h.mm k _ hk
   exact hg1.2 b hb
  ·exact .inl (le_trans h.hb (hv b hb))⟩
 have ch:pG c σ Γ w k (.row e t ver' o' l') (Γ.fB k v' fps'.flatten) w':=by
  refine⟨aC.ng Γ k _ _,hw.os,hw.tape,hw.output,hw.size,fun b hlt hm=>hw.block b hlt fun e=>hm _ hk e.symm,fun b hm=>?_,fun b hf j B hjk hj=>?_⟩
  ·have hm':((Γ.fB k v' fps'.flatten).hd k).ownBlock=some b:=hm
   rw[aC.cI] at hm'
   rcases hv with hv|hv
   ·exact .inr ⟨_,hk,by show (Γ.hd k).ownBlock=some b; rw[<-hv]; exact hm'⟩
   ·exact .inl (hv b hm')
  ·cases o' with
   | false=>simp[ay.bY] at hf
   | true =>
    simp only[ay.bY,aC.ib] at hf
    exact (ho rfl).2 b hf j B hjk hj
 refine h.yf ch ?_ ?_ ?_ ?_
 ·rintro v u ⟨_,B,hB,hbb⟩
  rw[hk] at hB; injection hB with hB; subst hB
  obtain⟨hle,hbh⟩:=hbb
  rcases hver with rfl|⟨rfl,rfl⟩
  ·exact⟨J,fun e=>J⟩
  ·exact⟨hle,fun e=>by rw[aC.cI]; exact hbh e⟩
 ·rintro v i off u ⟨h1,B,hB,hbh⟩
  rw[hk] at hB; injection hB with hB; subst hB
  obtain⟨hle,hh⟩:=hbh e t ver o l rfl
  refine⟨h1,_,aD ..,fun e2 t2 v2 o2 l2 he=>?_⟩
  injection he with e1 e2 e3 e4 e5
  subst e2 e3
  rcases hver with rfl|⟨rfl,rfl⟩
  ·exact⟨J,fun e=>J⟩
  ·exact⟨hle,fun e=>by rw[aC.cI]; exact hh e⟩
 ·intro x cs hB; rw[hk] at hB; cases hB
 ·intro hcr
  refine⟨fps',by rw[aC.cI]; exact hg,aC.ib ..,fun b hbf=>?_,fun hoo=>by rw[aC.ib]; exact (ho hoo).1⟩
  rw[aC.ib] at hbf
  exact ch.gd (hgd b hbf).2 (hgd b hbf).1
theorem aH.freeze (h:aH c σ Γ a w) {k:Nat} {B:ay} (hk:look σ.mem k=some B) (B':ay)
  (hB:(∃e t ver o l,B=.row e t ver o l/\B'=.jH t ver l)\/(∃t l,B=.cU t l/\B'=.jH t 0 l)\/(∃t l,B=.cu t l/\B'=.jH t 0 l)\/((∀x cs,B ≠ .bx x cs)/\B'=.dead)):aH c ⟨σ.tmps,(k,B') :: σ.mem⟩ Γ a w:=by
 have hno:∀b,¬ B'.mut Γ k b:=by
  intro b
  rcases hB with ⟨e,t,ver,o,l,rfl,rfl⟩|⟨t,l,rfl,rfl⟩|⟨t,l,rfl,rfl⟩|⟨_,rfl⟩<;>exact id
 have hno2:B'.bY Γ k=[]:=by rcases hB with ⟨e,t,ver,o,l,rfl,rfl⟩|⟨t,l,rfl,rfl⟩|⟨t,l,rfl,rfl⟩|⟨_,rfl⟩<;>rfl
 have hnm:∀t l,B' ≠ .cu t l:=by rcases hB with ⟨e,t,ver,o,l,rfl,rfl⟩|⟨t,l,rfl,rfl⟩|⟨t,l,rfl,rfl⟩|⟨_,rfl⟩<;>(intro t l h; cases h)
 have ch:pG c σ Γ w k B' Γ w:=⟨fun j _=>⟨rfl,rfl,rfl⟩,rfl,rfl,rfl,le_refl _,fun _ _ _=>rfl,fun b hb=>absurd hb (hno b),fun b hb=>by rw[hno2] at hb; cases hb⟩
 have hnob:∀x v d,B' ≠ .ob x v d:=by rcases hB with ⟨e,t,ver,o,l,rfl,rfl⟩|⟨t,l,rfl,rfl⟩|⟨t,l,rfl,rfl⟩|⟨_,rfl⟩<;>(intro x v d h; cases h)
 refine h.yf ch ?_ ?_ ?_ ?_ hnm (.inl hnob)
 ·rintro ver u ⟨h1,C,hC,hh⟩
  rw[hk] at hC; injection hC with hC; subst hC
  have hold:=h.mm k B hk
  rcases hB with ⟨e,t,ver',o,l,rfl,rfl⟩|⟨t,l,rfl,rfl⟩|⟨t,l,rfl,rfl⟩|⟨_,rfl⟩
  ·intro e
   obtain⟨fps,hg,hf,hgd,_⟩:=hold
   rw[hh.2 e]
   obtain⟨⟨xs,ho,hl,he⟩,hR⟩:=hg
   have hown:=ho
   rcases ho.2 with ⟨hn,h0⟩|⟨g,cap,cur,hv,hbg,hg',h1',h2',h3',h4'⟩
   ·have:l=[]:=List.eq_nil_of_length_eq_zero h0
    subst this
    rw[hn]
    exact⟨[],⟨none,0,rfl,le_refl _,zero_le _,.inl ⟨rfl,rfl⟩⟩,fun b hb=>by cases hb⟩
   ·rw[hv]
    by_cases hl0:l=[]
    ·subst hl0
     exact⟨[],⟨_,cap,rfl,h1',h2',.inl ⟨rfl,rfl⟩⟩,fun b hb=>by cases hb⟩
    ·refine⟨g :: fps.flatten,⟨_,cap,rfl,h1',h2',.inr ⟨g,0,fps,hl0,rfl,rfl,hl,fun i x hx=>?_⟩⟩,fun b hb=>?_⟩
     ·obtain⟨f,cs,hfi,hr,hc⟩:=he i x hx
      refine⟨f,cs,hfi,hr,fun j d hj=>?_⟩
      have hx2:=hc j d hj
      rw[zero_add,cell_of_row w g _ cur _ (0,0) hg',<-getElem?_toList]
      rw[<-h4',getElem?_take] at hx2
      split at hx2
      ·exact hx2
      ·cases hx2
     ·rcases mem_cons.1 hb with rfl|hb
      ·refine⟨(hR b (by rw[hv]; rfl)).gd,?_⟩
       rintro⟨j,C,hj,hm⟩
       by_cases hjk:j=k
       ·subst hjk; rw[aD] at hj; injection hj with hj; subst hj; exact hno _ hm
       ·rw[aG _ _ hjk] at hj
        exact hjk (h.inj j k C _ b hj hk hm (by show (Γ.hd k).ownBlock=some b; rw[hv]; rfl))
      ·exact ch.gd (hgd b (hf ▸ hb)) (bh.lt (A:=t.rp) ⟨xs,hown,hl,he⟩ b hb)
  ·intro e
   obtain⟨hr,hgd,_⟩:=hold
   rw[hh e.symm]
   exact⟨_,hr,fun b hb=>ch.gd (hgd b hb) ((Rp.slice t.rp t.pos).lt hr b hb)⟩
  ·intro e
   obtain⟨hr,hon⟩:=hold
   rw[hh e.symm]
   refine⟨_,hr,fun b hb=>⟨(hon.2 b hb).1.gd,?_⟩⟩
   rintro⟨j,C,hj,hm⟩
   by_cases hjk:j=k
   ·subst hjk; rw[aD] at hj; injection hj with hj; subst hj; exact hno _ hm
   ·rw[aG _ _ hjk] at hj
    exact hjk (h.inj j k C _ b hj hk hm hb)
  ·trivial
 ·rintro ver i off u ⟨h1,C,hC,_⟩
  refine⟨h1,B',aD ..,fun e t v o l he=>?_⟩
  rcases hB with ⟨e,t,ver,o,l,rfl,rfl⟩|⟨t,l,rfl,rfl⟩|⟨t,l,rfl,rfl⟩|⟨_,rfl⟩<;>cases he
 ·intro x cs hC
  rw[hk] at hC; injection hC with hC; subst hC
  rcases hB with ⟨e,t,ver,o,l,h1,_⟩|⟨t,l,h1,_⟩|⟨t,l,h1,_⟩|⟨h1,_⟩
  ·cases h1
  ·cases h1
  ·cases h1
  ·exact absurd rfl (h1 x cs)
 ·intro _
  rcases hB with ⟨e,t,ver,o,l,rfl,rfl⟩|⟨t,l,rfl,rfl⟩|⟨t,l,rfl,rfl⟩|⟨_,rfl⟩<;>trivial
theorem aH.YB (h:aH c σ Γ a w) {k:Nat} (hk:look σ.mem k=none) {t:Ty} {l:List t.den} {v:Value} {fp:List Nat} (hr:(Rp.slice t.rp t.pos).rep w [v] l fp) (ho:gx c w fp) (hgd:∀b ∈ fp,Gd c σ.mem Γ b)
  (hd:∀b ∈ fp,∀j B,look σ.mem j=some B->b ∉ B.bY Γ j):aH c ⟨σ.tmps,(k,.cU t l) :: σ.mem⟩ (Γ.fB k v fp) a w:=by
 have ch:pG c σ Γ w k (.cU t l) (Γ.fB k v fp) w:=by
  refine⟨aC.ng Γ k _ _,rfl,rfl,rfl,le_refl _,fun _ _ _=>rfl,fun b hb=>hb.elim,fun b hf j B _ hj=>?_⟩
  simp only[ay.bY,aC.ib] at hf
  exact hd b hf j B hj
 refine h.yf ch ?_ ?_ ?_ ?_
 ·rintro ver u ⟨_,B,hB,_⟩; rw[hk] at hB; cases hB
 ·rintro ver i off u ⟨_,B,hB,_⟩; rw[hk] at hB; cases hB
 ·intro x cs hB; rw[hk] at hB; cases hB
 ·intro _
  refine⟨by rw[aC.cI,aC.ib]; exact hr,fun b hb=>?_,by rw[aC.ib]; exact ho⟩
  rw[aC.ib] at hb
  exact ch.gd (hgd b hb) ((Rp.slice t.rp t.pos).lt hr b hb)
end
section
variable {c:Cx} {σ:St} {Γ:aC} {a:Act} {w:World}
theorem aH.Wq (h:aH c σ Γ a w) {k:Nat} {v:Nat} {d d':Ah} {u:Value} {b:Nat} {o':Obj} (hk:look σ.mem k=some (.ob none v d)) {w':World}
  (hb:lJ d' u=some b) (ho:w'.heap[b]? = some o') (hI:d'.I u o') (hw:w.grownBy w' (lJ d (Γ.hd k))) (hn:lJ d (Γ.hd k)=some b\/w.heap.size<=b):aH c ⟨σ.tmps,(k,.ob none (v+1) d') :: σ.mem⟩ (Γ.fB k u []) a w':=by
 have ch:pG c σ Γ w k (.ob none (v+1) d') (Γ.fB k u []) w':=by
  refine⟨aC.ng Γ k _ _,hw.os,hw.tape,hw.output,hw.size,fun i hi hm=>hw.block i hi fun e=>hm _ hk e.symm,fun i hm=>?_,fun i hf=>by simp[ay.bY] at hf⟩
  have hm':lJ d' ((Γ.fB k u []).hd k)=some i:=hm
  rw[aC.cI,hb] at hm'
  injection hm' with e
  subst e
  rcases hn with hn|hn
  ·exact .inr ⟨_,hk,hn⟩
  ·exact .inl hn
 refine h.yf ch ?_ ?_ ?_ ?_ (by intro t l h; cases h) (.inr ?_)
 ·rintro ver y ⟨_,B,hB,hbh⟩
  rw[hk] at hB; injection hB with hB; subst hB
  exact⟨by have:=hbh.1; omega,fun e=>by have:=hbh.1; omega⟩
 ·rintro ver i off y ⟨h1,B,hB,_⟩
  exact⟨h1,_,aD ..,fun e t v o l he=>by cases he⟩
 ·intro y cs hB; rw[hk] at hB; cases hB
 ·intro _
  have e:(Γ.fB k u []).ov k none=u:=aC.cI ..
  obtain⟨b0,o0,e1,e2,_⟩:=h.mm k _ hk
  refine⟨b,o',by rw[e]; exact hb,?_,ho,by rw[e]; exact hI⟩
  rcases hn with hn|hn
  ·have e1':lJ d (Γ.hd k)=some b0:=e1
   rw[hn] at e1'; injection e1' with e1'; subst e1'; exact e2
  ·exact .inl (le_trans h.hb hn)
 ·rintro ver off y ⟨h1,B,hB,hbh⟩
  rw[hk] at hB; injection hB with hB; subst hB
  refine⟨h1,_,aD ..,fun x2 v2 d2 he=>?_⟩
  injection he with e1 e2 e3
  subst e1 e2
  have:=(hbh none v d rfl).1
  exact⟨J,fun e=>J⟩
end
def gh (σ σ':St):Prop:=(∀d,look σ'.tmps d=look σ.tmps d)/\∀k,look σ'.mem k=look σ.mem k
theorem TU {M M':Mm} {Γ:aC} (h:∀k,look M' k=look M k) {b:Nat}:iB M' Γ b ↔ iB M Γ b:=by
 unfold iB
 constructor<;>rintro⟨k,B,hk,hm⟩
 ·exact⟨k,B,by rw[<-h]; exact hk,hm⟩
 ·exact⟨k,B,by rw[h]; exact hk,hm⟩
theorem mO {c:Cx} {M M':Mm} {Γ:aC} (h:∀k,look M' k=look M k) {b:Nat} (hg:Gd c M Γ b):Gd c M' Γ b:=⟨hg.1,fun hm=>hg.2 ((TU h).1 hm)⟩
theorem Sm {c:Cx} {M M':Mm} {Γ:aC} {w:World} (h:∀k,look M' k=look M k) {v:AV} {u:Value} (hv:aQ c M Γ w v u):aQ c M' Γ w v u:=by
 cases v with
 | sl t l=>obtain⟨fp,hr,hg⟩:=hv; exact⟨fp,hr,fun b hb=>mO h (hg b hb)⟩
 | fx v t l=>obtain⟨e,fp,hr,hg⟩:=hv; exact⟨e,fp,hr,fun b hb=>mO h (hg b hb)⟩
 | ex e t x=>obtain⟨fp,hr,hg⟩:=hv; exact⟨fp,hr,fun b hb=>mO h (hg b hb)⟩
 | iQ f ks=>obtain⟨us,rfl,hk⟩:=hv; exact⟨us,rfl,hk.mono fun k u _ hj=>by obtain⟨xo,cs,hc,rfl⟩:=hj; exact⟨xo,cs,by rw[h]; exact hc,rfl⟩⟩
 | row k ver =>
  obtain⟨h1,B,hB,hh⟩:=hv
  refine⟨h1,B,by rw[h]; exact hB,?_⟩
  cases B with
  | jH t v l=>intro e; obtain⟨fp,hr,hg⟩:=hh e; exact⟨fp,hr,fun b hb=>mO h (hg b hb)⟩
  | _=>exact hh
 | ptr k off=>obtain⟨xo,cs,hc,rfl⟩:=hv; exact⟨xo,cs,by rw[h]; exact hc,rfl⟩
 | pL k ver i off=>obtain⟨h1,B,hB,hh⟩:=hv; exact⟨h1,B,by rw[h]; exact hB,hh⟩
 | wk k i s off=>obtain⟨h1,B,hB,hh⟩:=hv; exact⟨h1,B,by rw[h]; exact hB,hh⟩
 | mX k ver off=>obtain⟨h1,B,hB,hh⟩:=hv; exact⟨h1,B,by rw[h]; exact hB,hh⟩
 | ref t x off=>obtain⟨b,o,cs,fp,rfl,hr,hc,hgb,hg,hl⟩:=hv; exact⟨b,o,cs,fp,rfl,hr,hc,mO h hgb,fun b' hb'=>mO h (hg b' hb'),hl⟩
 | _=>exact hv
theorem aH.same {c:Cx} {σ σ':St} {Γ:aC} {a:Act} {w:World} (h:aH c σ Γ a w) (hs:gh σ σ'):aH c σ' Γ a w:=by
 obtain⟨h1,h2⟩:=hs
 have hcr:∀v u,aQ c σ.mem Γ w v u->aQ c σ'.mem Γ w v u:=fun v u=>Sm h2
 refine⟨fun d v hd=>?_,fun k B hk=>?_,fun k k' B B' b hk hk'=>?_,fun k k' B B' b hk hk'=>?_,h.below,h.hb,h.defs,h.sz⟩
 ·obtain⟨u,e1,e2⟩:=h.tm d v (by rw[<-h1]; exact hd); exact⟨u,e1,pN hcr e2⟩
 ·have hold:=h.mm k B (by rw[<-h2]; exact hk)
  cases B with
  | bx x cs=>obtain⟨e1,us,e,e2,e3⟩:=hold; exact⟨e1,us,e,e2,e3.mono fun v u _=>hcr v u⟩
  | row e t v o l=>obtain⟨fps,e1,e2,e3,e4⟩:=hold; exact⟨fps,e1,e2,fun b hb=>mO h2 (e3 b hb),e4⟩
  | cU t l=>exact⟨hold.1,fun b hb=>mO h2 (hold.2.1 b hb),hold.2.2⟩
  | cu t l=>exact hold
  | ob x v d=>exact hold
  | _=>trivial
 ·exact h.inj k k' B B' b (by rw[<-h2]; exact hk) (by rw[<-h2]; exact hk')
 ·exact h.pX k k' B B' b (by rw[<-h2]; exact hk) (by rw[<-h2]; exact hk')
def zZ:(e:Ex)->(a:Ty)->Option a.den->AV
 | .ref,a,some x=>.ref a x 0
 | e,a,x=>.ex e a x
def js:(t:Ty)->t.den->List AV
 | .int,n=>[.sc (.int .i64 n)]
 | .bool,b=>[.sc (.bool b)]
 | .str,s=>[.sc (.string s)]
 | .u8,n=>[.sc (.int .u8 n)]
 | .dr f,_=>[.sc (f.val)]
 | .prod a b,x=>js a x.1++js b x.2
 | .slice a,l=>[.sl a l]
 | .ext e a,x=>[zZ e a x]
def av:(t:Ty)->t.den->AV
 | .int,n=>.sc (.int .i64 n)
 | .bool,b=>.sc (.bool b)
 | .str,s=>.sc (.string s)
 | .u8,n=>.sc (.int .u8 n)
 | .dr f,_=>.sc (f.val)
 | .prod a b,x=>.agg (js a x.1++js b x.2)
 | .slice a,l=>.sl a l
 | .ext e a,x=>zZ e a x
def ay.data (B:ay) (ver:Nat):Option sF :=
 match B with
 | .row _ t v _ l=>if v=ver then some ⟨t,l⟩ else none
 | .cU t l=>if ver=0 then some ⟨t,l⟩ else none
 | .jH t v l=>if v=ver then some ⟨t,l⟩ else none
 | _=>none
def AV.data (lm:Nat->Option ay):AV->Option sF
 | .sl t l=>some ⟨t,l⟩
 | .fx _ t l=>some ⟨t,l⟩
 | .row k ver=>(lm k).bind (·.data ver)
 | _=>none
def WB (lm:Nat->Option ay) (a:Ty) (l:List a.den) (v:AV):Prop:=v.data lm=some ⟨a,l⟩\/v=.sc (.slice none 0 0)/\l=[]
def Is (lm:Nat->Option ay):(t:Ty)->t.den->List AV->Prop
 | .int,n,cs=>cs=[.sc (.int .i64 n)]
 | .bool,b,cs=>cs=[.sc (.bool b)]
 | .str,s,cs=>cs=[.sc (.string s)]
 | .u8,n,cs=>cs=[.sc (.int .u8 n)]
 | .dr f,_,cs=>cs=[.sc (f.val)]
 | .slice a,l,cs=>∃v,cs=[v]/\WB lm a l v
 | .ext e a,x,cs=>cs=[zZ e a x]\/(x=none/\cs=[.sc e.zv])
 | .prod a b,x,cs=>Is lm a x.1 (cs.take a.size)/\Is lm b x.2 (cs.drop a.size)
def dw (lm:Nat->Option ay) (d:aL):AV->Prop
 | .agg cs=>d.1.isAgg=true/\Is lm d.1 d.2 cs
 | v=>d.1.isAgg=false/\Is lm d.1 d.2 [v]
def AV.rows:AV->List Nat
 | .row k _=>[k]
 | .agg cs=>cs.flatMap fun|.row k _=>[k]|_=>[]
 | _=>[]
def bc (cs:List AV):List Nat:=cs.flatMap fun|.row k _=>[k]|_=>[]
theorem nw {cs:List AV} {k ver:Nat} (h:AV.row k ver ∈ cs):k ∈ bc cs:=mem_flatMap.2 ⟨_,h,by simp⟩
theorem nD {lm lm':Nat->Option ay} {v:AV} (h:∀k ver,v=.row k ver->lm' k=lm k):v.data lm'=v.data lm:=by
 cases v<;>simp only[AV.data]
 rw[h _ _ rfl]
theorem iw {lm lm':Nat->Option ay}:∀{t:Ty} {x:t.den} {cs:List AV},(∀k ∈ bc cs,lm' k=lm k)->Is lm t x cs->Is lm' t x cs
 | .int,_,_,_,h=>h
 | .bool,_,_,_,h=>h
 | .str,_,_,_,h=>h
 | .u8,_,_,_,h=>h
 | .dr _,_,_,_,h=>h
 | .ext _ _,_,_,_,h=>h
 | .slice a,l,cs,hc,⟨v,e,h⟩=>⟨v,e,h.imp (fun h=>(nD fun k ver ek=>hc k (by subst e ek; simp[bc])).trans h) id⟩
 | .prod a b,x,cs,hc,⟨h1,h2⟩ =>
  ⟨iw (fun k hk=>hc k (by obtain⟨v,hv,hkv⟩:=mem_flatMap.1 hk; exact mem_flatMap.2 ⟨v,List.mem_of_mem_take hv,hkv⟩)) h1,
   iw (fun k hk=>hc k (by obtain⟨v,hv,hkv⟩:=mem_flatMap.1 hk; exact mem_flatMap.2 ⟨v,List.mem_of_mem_drop hv,hkv⟩)) h2⟩
theorem cV {lm lm':Nat->Option ay} {d:aL} {v:AV} (hc:∀k ∈ v.rows,lm' k=lm k) (h:dw lm d v):dw lm' d v:=by
 cases v with
 | agg cs=>exact⟨h.1,iw hc h.2⟩
 | row k ver=>exact⟨h.1,iw (fun j hj=>hc j (by simpa [bc,AV.rows] using hj)) h.2⟩
 | _=>exact⟨h.1,iw (fun j hj=>by simp[bc] at hj) h.2⟩
def pk (t:Ty) (v:Value) (cs:List Value):Prop:=(t.isAgg=true/\v=.agg cs.toArray)\/(t.isAgg=false/\cs=[v])
def bV (w:World) (v:Value) (d:aL) (fp:List Nat):Prop:=∃cs,pk d.1 v cs/\d.1.rp.rep w cs d.2 fp
def oy (own:Bool) (base:Nat) (S:Nat->Prop) (w:World) (v:Value) (d:aL):Prop:=∃fp,bV w v d fp/\(own=true->kF base w fp)/\∀b ∈ fp,S b\/base<=b
def pb (own:Bool) (base:Nat) (S:Nat->Prop) (w:World) (v:Value):List aL->Prop
 | [d]=>oy own base S w v d
 | ds=>∃us:List Value,v=.tuple us.toArray/\aA (oy false base S w) us ds
abbrev gH:String:="internal/strconv.uint64pow10"
def Gw (P:Program) (w:World):Prop:=∀g,P.globalNamed gH=some g->g < w.heap.size/\Lib.TabIs P w gH .u64 Lib.pow10Tab
theorem Gw.none {P:Program} {w:World} (h:P.globalNamed gH=none):Gw P w:=fun g hg=>by rw[h] at hg; cases hg
theorem Gw.Mk {P:Program} {w w':World} {X:Nat->Prop} {n:Nat} (h:Gw P w) (hb:ep X n w w') (hn:∀g,P.globalNamed gH=some g->g < n/\¬ X g):Gw P w':=fun g hg=>by
 obtain⟨h1,h2⟩:=h g hg
 obtain⟨n1,n2⟩:=hn g hg
 have e:=hb.block g n1 n2
 refine⟨lt_of_lt_of_le h1 hb.size,?_⟩
 unfold Lib.TabIs World.var? at h2 ⊢
 rw[hg] at h2 ⊢
 simp only[Option.bind_some] at h2 ⊢
 rw[e]; exact h2
structure CG (P:Program) (c:Cx):Prop where
 g:∀w,ep c.X c.base c.w0 w->Gw P w
 ne:∀g,P.globalNamed gH=some g->g < c.base/\¬ c.X g
theorem CG.of {P:Program} {w:World} {S X:Nat->Prop} {n:Nat} (h:Gw P w) (hx:∀g,P.globalNamed gH=some g->¬ X g):CG P ⟨w.heap.size,w,S,n,X⟩ :=
 ⟨fun w' hb=>h.Mk hb fun g hg=>⟨(h g hg).1,hx g hg⟩,fun g hg=>⟨(h g hg).1,hx g hg⟩⟩
theorem jj {P:Program} {c:Cx} [hc:Nonempty (CG P c)] {σ:St} {Γ:aC} {a:Act} {w:World} (hs:aH c σ Γ a w):Gw P w:=hc.elim fun h=>h.g w hs.below
theorem Oh {P:Program} {c:Cx} [hc:Nonempty (CG P c)] {b:Nat} (hb:c.base<=b\/c.X b):∀g,P.globalNamed gH=some g->b ≠ g:=fun g hg e=>hc.elim fun h=>by
 obtain⟨h1,h2⟩:=h.ne g hg
 subst e
 rcases hb with hb|hb
 ·omega
 ·exact h2 hb
def Fn (P:Program) (f:FuncId) (args:List aL) (own:Bool) (res:List aL):Prop :=
 (∀vs w,(callFunc f vs).run P w=.ok (.enter f vs) w) ∧
 ∀(w:World) (vs:List Value) (S:Nat->Prop),Gw P w->aA (fun v d=>∃fp,bV w v d fp/\∀b ∈ fp,S b) vs args →
  Calls P f vs.toArray w fun e w'=>Below w.heap.size w w'/\∃v,e=.returned v/\pb own w.heap.size S w' v res
theorem oy.sh {own:Bool} {base:Nat} {S:Nat->Prop} {w:World} {v:Value} {d:aL} (h:oy own base S w v d):oy false base S w v d:=let ⟨fp,h1,_,h3⟩:=h; ⟨fp,h1,(fun h=>by cases h),h3⟩
theorem Fn.sh {P:Program} {f:FuncId} {args:List aL} {own:Bool} {res:List aL} (h:Fn P f args own res):Fn P f args false res :=
 ⟨h.1,fun w vs S hg ha=>(h.2 w vs S hg ha).mono fun e w' ⟨hb,v,he,hr⟩=>⟨hb,v,he,by
  match res,hr with
  | [],hr=>exact hr
  | [d],hr=>exact oy.sh hr
  | _ :: _ :: _,hr=>exact hr⟩⟩
section
variable {c:Cx} {σ:St} {Γ:aC} {a:Act} {w:World}
theorem XF {M:Mm} {e:Ex} {s:Ty} {x:Option s.den} {u:Value} {fp:List Nat} (h:(pv e s.rp s.pos).rep w [u] x fp) (hg:∀b ∈ fp,Gd c M Γ b):aQ c M Γ w (zZ e s x) u:=by
 cases x with
 | none=>cases e<;>exact⟨fp,h,hg⟩
 | some y =>
  cases e with
  | ref =>
   have hlt:=(pv .ref s.rp s.pos).lt h
   obtain⟨b,o,cs',fp',e1,rfl,hr,hc⟩:=h
   injection e1 with e1
   exact⟨b,o,cs',fp',e1,hr,hc,hg b mem_cons_self,fun b' hb'=>hg b' (mem_cons_of_mem _ hb'),hlt b mem_cons_self⟩
  | _=>exact⟨fp,h,hg⟩
theorem UE {M:Mm} {e:Ex} {s:Ty} {x:Option s.den} {u:Value} (h:aQ c M Γ w (zZ e s x) u):∃fp,(pv e s.rp s.pos).rep w [u] x fp/\∀b ∈ fp,Gd c M Γ b:=by
 cases x with
 | none=>cases e<;>exact h
 | some y =>
  cases e with
  | ref =>
   obtain⟨b,o,cs',fp',e1,hr,hc,hgb,hg,_⟩:=h
   exact⟨b :: fp',⟨b,o,cs',fp',by rw[e1]; rfl,rfl,hr,hc⟩,fun b' hb'=>(mem_cons.1 hb').elim (fun e=>e ▸ hgb) (hg b')⟩
  | _=>exact h
theorem oQ {M:Mm}:∀{t:Ty} {x:t.den} {cs:List Value} {fp:List Nat},t.rp.rep w cs x fp->(∀b ∈ fp,Gd c M Γ b)->aA (aQ c M Γ w) (js t x) cs
 | .int,n,cs,fp,h,_=>by obtain⟨rfl,_,hI⟩:=h; exact⟨⟨rfl,rfl,hI⟩,trivial⟩
 | .bool,n,cs,fp,h,_=>by obtain⟨rfl,_⟩:=h; exact⟨⟨rfl,rfl,trivial⟩,trivial⟩
 | .str,n,cs,fp,h,_=>by obtain⟨rfl,_,hI⟩:=h; exact⟨⟨rfl,rfl,hI⟩,trivial⟩
 | .u8,n,cs,fp,h,_=>by obtain⟨rfl,_,hI⟩:=h; exact⟨⟨rfl,rfl,hI⟩,trivial⟩
 | .dr f,n,cs,fp,h,_=>by obtain⟨rfl,_⟩:=h; exact⟨⟨rfl,f.one,f.ok⟩,trivial⟩
 | .ext e s,x,cs,fp,h,hg=>by
  have h':(pv e s.rp s.pos).rep w cs x fp:=h
  have hl:=(pv e s.rp s.pos).len h'
  match cs,hl with
  | [u],_=>exact⟨XF h' hg,trivial⟩
 | .slice s,l,cs,fp,h,hg=>by
  have h':(Rp.slice s.rp s.pos).rep w cs l fp:=h
  obtain⟨ad,cc,rfl,_⟩:=h
  exact⟨⟨fp,h',hg⟩,trivial⟩
 | .prod s u,x,cs,fp,h,hg=>by
  obtain⟨c1,c2,f1,f2,rfl,rfl,h1,h2⟩:=h
  exact (oQ h1 fun b hb=>hg b (mem_append.2 (.inl hb))).app (oQ h2 fun b hb=>hg b (mem_append.2 (.inr hb)))
theorem Tk {M:Mm} {v:AV} {u:Value} (h:aQ c M Γ w v u):bq c M Γ w v u:=by
 cases v<;>first|exact h|exact h.elim
theorem jn {M:Mm} {d:aL} {v:Value} {fp:List Nat} (h:bV w v d fp) (hg:∀b ∈ fp,Gd c M Γ b):bq c M Γ w (av d.1 d.2) v:=by
 obtain⟨t,x⟩:=d
 obtain⟨cs,hp,hr⟩:=h
 have hc:=oQ hr hg
 cases t with
 | ext e a =>
  rcases hp with ⟨h,_⟩|⟨_,rfl⟩
  ·cases h
  ·exact Tk hc.1
 | prod s u =>
  rcases hp with ⟨_,rfl⟩|⟨h,_⟩
  ·exact⟨cs,rfl,hc⟩
  ·cases h
 | _ =>
  rcases hp with ⟨h,_⟩|⟨_,rfl⟩
  ·cases h
  ·exact hc.1
theorem Aj {t:Ty} {base:Nat} {e:TypeId} {v:Value} {l:List t.den} {fps:List (List Nat)} (h:bh t.rp base w e v l fps) :
  ∃fp,(Rp.slice t.rp t.pos).rep w [v] l fp/\(fp=[]\/∃g,v.ownBlock=some g/\fp=g :: fps.flatten/\base<=g/\pU w g):=by
 obtain⟨xs,ho,hl,he⟩:=h
 rcases ho.2 with ⟨hn,h0⟩|⟨g,cap,cur,hv,hbg,hg',h1',h2',h3',h4'⟩
 ·have:l=[]:=List.eq_nil_of_length_eq_zero h0
  subst this
  rw[hn]
  exact⟨[],⟨none,0,rfl,le_refl _,zero_le _,.inl ⟨rfl,rfl⟩⟩,.inl rfl⟩
 ·rw[hv]
  by_cases hl0:l=[]
  ·subst hl0
   exact⟨[],⟨_,cap,rfl,h1',h2',.inl ⟨rfl,rfl⟩⟩,.inl rfl⟩
  ·refine⟨g :: fps.flatten,⟨_,cap,rfl,h1',h2',.inr ⟨g,0,fps,hl0,rfl,rfl,hl,fun i x hx=>?_⟩⟩,.inr ⟨g,rfl,rfl,hbg,cur,_,hg'⟩⟩
   obtain⟨f,cs,hfi,hr,hc⟩:=he i x hx
   refine⟨f,cs,hfi,hr,fun j d hj=>?_⟩
   have hx2:=hc j d hj
   rw[zero_add,cell_of_row w g _ cur _ (0,0) hg',<-getElem?_toList]
   rw[<-h4',getElem?_take] at hx2
   split at hx2
   ·exact hx2
   ·cases hx2
theorem sE {t:Ty} {e:TypeId} {v:Value} {l:List t.den} {fps:List (List Nat)} (h:jm c t w e v l fps) :
  ∃fp,(Rp.slice t.rp t.pos).rep w [v] l fp/\(fp=[]\/∃g,v.ownBlock=some g/\fp=g :: fps.flatten/\Hr c g/\pU w g):=by
 obtain⟨fp,h1,h2⟩:=Aj h.1
 exact⟨fp,h1,h2.imp id fun⟨g,h3,h4,_,h5⟩=>⟨g,h3,h4,h.2 g h3,h5⟩⟩
theorem aH.rK (h:aH c σ Γ a w) {v:AV} {u:Value} {t:Ty} {l:List t.den} (hv:aQ c σ.mem Γ w v u) (hd:v.data (look σ.mem)=some ⟨t,l⟩) :
  ∃fp,(Rp.slice t.rp t.pos).rep w [u] l fp/\(∀b ∈ fp,c.S b\/c.base<=b)/\((∀k ver,v=.row k ver->∀e t v o l,look σ.mem k ≠ some (.row e t v o l))->∀b ∈ fp,Gd c σ.mem Γ b):=by
 cases v with
 | sl s m =>
  injection hd with hd
  injection hd with h1 h2
  subst h1
  obtain rfl:=eq_of_heq h2
  obtain⟨fp,hr,hg⟩:=hv
  exact⟨fp,hr,fun b hb=>(hg b hb).1,fun _=>hg⟩
 | fx _ s m =>
  injection hd with hd
  injection hd with h1 h2
  subst h1
  obtain rfl:=eq_of_heq h2
  obtain⟨_,fp,hr,hg⟩:=hv
  exact⟨fp,hr,fun b hb=>(hg b hb).1,fun _=>hg⟩
 | row k ver =>
  obtain⟨_,B,hB,hh⟩:=hv
  simp only[AV.data,hB,Option.bind_some] at hd
  have hm:=h.mm k B hB
  cases B with
  | row e s v o m =>
   simp only[ay.data] at hd
   split at hd
   ·rename_i hvv
    injection hd with hd
    injection hd with h1 h2
    subst h1
    obtain rfl:=eq_of_heq h2
    obtain⟨fps,hg,hf,hgd,_⟩:=hm
    rw[hh.2 hvv]
    obtain⟨fp,hr,hfp⟩:=sE hg
    refine⟨fp,hr,fun b hb=>?_,fun hn=>absurd hB (hn k ver rfl e s v o m)⟩
    rcases hfp with rfl|⟨g,_,rfl,hbg,_⟩
    ·cases hb
    ·rcases mem_cons.1 hb with rfl|hb
     ·exact hbg.gd
     ·exact (hgd b (hf ▸ hb)).1
   ·cases hd
  | cU s m =>
   simp only[ay.data] at hd
   split at hd
   ·rename_i hvv
    injection hd with hd
    injection hd with h1 h2
    subst h1
    obtain rfl:=eq_of_heq h2
    rw[hh hvv]
    exact⟨_,hm.1,fun b hb=>(hm.2.1 b hb).1,fun _=>hm.2.1⟩
   ·cases hd
  | jH s v m =>
   simp only[ay.data] at hd
   split at hd
   ·rename_i hvv
    injection hd with hd
    injection hd with h1 h2
    subst h1
    obtain rfl:=eq_of_heq h2
    obtain⟨fp,hr,hg⟩:=hh hvv
    exact⟨fp,hr,fun b hb=>(hg b hb).1,fun _=>hg⟩
   ·cases hd
  | _=>cases hd
 | _=>cases hd
theorem aH.ZO (h:aH c σ Γ a w) {v:AV} {u:Value} {t:Ty} {l:List t.den} (hv:aQ c σ.mem Γ w v u) (hd:WB (look σ.mem) t l v) :
  ∃fp,(Rp.slice t.rp t.pos).rep w [u] l fp/\(∀b ∈ fp,c.S b\/c.base<=b)/\((∀k ver,v=.row k ver->∀e t v o l,look σ.mem k ≠ some (.row e t v o l))->∀b ∈ fp,Gd c σ.mem Γ b):=by
 rcases hd with hd|⟨rfl,rfl⟩
 ·exact h.rK hv hd
 ·obtain⟨rfl,_⟩:=hv
  exact⟨[],⟨none,0,rfl,le_refl _,zero_le _,.inl ⟨rfl,rfl⟩⟩,(fun b hb=>by cases hb),fun _ b hb=>by cases hb⟩
theorem aH.j7 (h:aH c σ Γ a w):∀{t:Ty} {x:t.den} {cs:List AV} {us:List Value},aA (aQ c σ.mem Γ w) cs us->Is (look σ.mem) t x cs →
  ∃fp,t.rp.rep w us x fp/\(∀b ∈ fp,c.S b\/c.base<=b)/\((∀k ver,AV.row k ver ∈ cs->∀e t v o l,look σ.mem k ≠ some (.row e t v o l))->∀b ∈ fp,Gd c σ.mem Γ b)
 | .int,n,_,[u],hc,rfl=>by obtain⟨⟨rfl,_,hI⟩,_⟩:=hc; exact⟨[],⟨rfl,rfl,hI⟩,(fun b hb=>by cases hb),fun _ b hb=>by cases hb⟩
 | .bool,n,_,[u],hc,rfl=>by obtain⟨⟨rfl,_⟩,_⟩:=hc; exact⟨[],⟨rfl,rfl⟩,(fun b hb=>by cases hb),fun _ b hb=>by cases hb⟩
 | .str,n,_,[u],hc,rfl=>by obtain⟨⟨rfl,_,hI⟩,_⟩:=hc; exact⟨[],⟨rfl,rfl,hI⟩,(fun b hb=>by cases hb),fun _ b hb=>by cases hb⟩
 | .u8,n,_,[u],hc,rfl=>by obtain⟨⟨rfl,_,hI⟩,_⟩:=hc; exact⟨[],⟨rfl,rfl,hI⟩,(fun b hb=>by cases hb),fun _ b hb=>by cases hb⟩
 | .dr _,n,_,[u],hc,rfl=>by obtain⟨⟨rfl,_⟩,_⟩:=hc; exact⟨[],⟨rfl,rfl⟩,(fun b hb=>by cases hb),fun _ b hb=>by cases hb⟩
 | .ext e s,x,cs,[u],hc,hi=>by
  rcases hi with rfl|⟨rfl,rfl⟩
  ·obtain⟨fp,hr,hg⟩:=UE hc.1
   exact⟨fp,hr,fun b hb=>(hg b hb).1,fun _=>hg⟩
  ·obtain⟨⟨rfl,_⟩,_⟩:=hc
   exact⟨[],⟨rfl,rfl⟩,(fun b hb=>by cases hb),fun _ b hb=>by cases hb⟩
 | .slice s,l,cs,[u],hc,hi=>by
  obtain⟨v,e,hs⟩:=hi
  subst e
  obtain⟨fp,h1,h2,h3⟩:=h.ZO hc.1 hs
  exact⟨fp,h1,h2,fun hn=>h3 fun k ver e=>hn k ver (by rw[e]; exact mem_cons_self)⟩
 | .prod s u,x,cs,us,hc,⟨i1,i2⟩=>by
  obtain⟨f1,r1,s1,g1⟩:=h.j7 (hc.take s.size) i1
  obtain⟨f2,r2,s2,g2⟩:=h.j7 (hc.drop s.size) i2
  refine⟨f1++f2,⟨_,_,f1,f2,(List.take_append_drop s.size us).symm,rfl,r1,r2⟩,fun b hb=>(mem_append.1 hb).elim (s1 b) (s2 b),fun hn b hb=>(mem_append.1 hb).elim (g1 (fun k ver hk=>hn k ver (List.mem_of_mem_take hk)) b) (g2 (fun k ver hk=>hn k ver (List.mem_of_mem_drop hk)) b)⟩
 | .int,n,_,[],hc,rfl=>hc.elim
 | .bool,n,_,[],hc,rfl=>hc.elim
 | .str,n,_,[],hc,rfl=>hc.elim
 | .u8,n,_,[],hc,rfl=>hc.elim
 | .dr _,n,_,[],hc,rfl=>hc.elim
 | .slice s,l,cs,[],hc,hi=>by obtain⟨v,e,hs⟩:=hi; subst e; exact hc.elim
 | .ext e s,x,cs,[],hc,hi=>by rcases hi with rfl|⟨rfl,rfl⟩<;>exact hc.elim
 | .int,n,_,_ :: _ :: _,hc,rfl=>hc.2.elim
 | .bool,n,_,_ :: _ :: _,hc,rfl=>hc.2.elim
 | .str,n,_,_ :: _ :: _,hc,rfl=>hc.2.elim
 | .u8,n,_,_ :: _ :: _,hc,rfl=>hc.2.elim
 | .dr _,n,_,_ :: _ :: _,hc,rfl=>hc.2.elim
 | .slice s,l,cs,_ :: _ :: _,hc,hi=>by obtain⟨v,e,hs⟩:=hi; subst e; exact hc.2.elim
 | .ext e s,x,cs,_ :: _ :: _,hc,hi=>by rcases hi with rfl|⟨rfl,rfl⟩<;>exact hc.2.elim
theorem aH.jN (h:aH c σ Γ a w) {v:AV} {u:Value} {d:aL} (hv:bq c σ.mem Γ w v u) (hi:dw (look σ.mem) d v) :
  ∃fp,bV w u d fp/\(∀b ∈ fp,c.S b\/c.base<=b)/\((∀k ∈ v.rows,∀e t v o l,look σ.mem k ≠ some (.row e t v o l))->∀b ∈ fp,Gd c σ.mem Γ b):=by
 cases v with
 | agg cs =>
  obtain⟨us,rfl,hc⟩:=hv
  obtain⟨fp,h1,h2,h3⟩:=h.j7 hc hi.2
  exact⟨fp,⟨us,.inl ⟨hi.1,rfl⟩,h1⟩,h2,fun hn=>h3 fun k ver hk=>hn k (nw hk)⟩
 | row k ver =>
  obtain⟨fp,h1,h2,h3⟩:=h.j7 (cs:=[.row k ver]) (us:=[u]) ⟨hv,trivial⟩ hi.2
  exact⟨fp,⟨[u],.inr ⟨hi.1,rfl⟩,h1⟩,h2,fun hn=>h3 fun k' ver' hk=>hn k' (by simp at hk; simp[AV.rows,hk])⟩
 | _ =>
  have hi2:=hi.2
  obtain⟨fp,h1,h2,h3⟩:=h.j7 (cs:=[_]) (us:=[u]) (And.intro (by simpa only [bq] using hv) trivial) hi2
  exact⟨fp,⟨[u],.inr ⟨hi.1,rfl⟩,h1⟩,h2,fun _=>h3 fun k' ver' hk=>by simp at hk⟩
end
structure bb where
 v:AV
 j3:Mm
 rd:List Nat
def bb.val (v:AV):bb:=⟨v,[],[]⟩
def St.app (σ:St) (d:Option Nat) (e:bb):St :=
 match d with
 | some d=>⟨(d,e.v) :: σ.tmps,e.j3++σ.mem⟩
 | none=>⟨σ.tmps,e.j3++σ.mem⟩
def Gk:Value->Option AV
 | .int .i64 n=>if -9223372036854775808<=n/\n<=9223372036854775807 then some (.sc (.int .i64 n)) else none
 | .int .u8 n=>if 0<=n/\n<=255 then some (.sc (.int .u8 n)) else none
 | .string s=>if s.size<=maxLen then some (.sc (.string s)) else none
 | .agg _=>none
 | .tuple _=>none
 | v=>some (.sc v)
def ev (lt:Nat->Option AV):Operand->Option AV
 | .tmp t=>lt t
 | .const v=>Gk v
 | .func f=>some (.sc (.func (.func f) #[] #[]))
 | .global _=>none
def kG (o:Oper):List Nat:=o.op.operands.toList.filterMap fun|.tmp t=>some t|_=>none
def aT (P:Program) (c:Cx) (lt:Nat->Option AV) (lm:Nat->Option ay) (nx:Nat) (o:Oper) (e:bb):Prop :=
 (∀p ∈ e.j3,nx<=p.1\/p.1 ∈ e.rd) ∧
 ∀(σ:St) (Γ:aC) (a:Act) (w:World),aH c σ Γ a w->(∀t ∈ kG o,look σ.tmps t=lt t)->(∀k ∈ e.rd,look σ.mem k=lm k)->(∀p ∈ e.j3,p.1 ∉ e.rd->look σ.mem p.1=none)->(∀d,o.dst=some d->d < c.n) →
  ∀(K:Act->World->Prop) (Q:Exit->Act->World->Prop),(∀ Γ' a' w',aH c (σ.app o.dst e) Γ' a' w'->K a' w')->o.wp P a w K Q
section
variable {P:Program} {c:Cx} {lt:Nat->Option AV} {lm:Nat->Option ay} {nx:Nat} {o:Oper}
theorem Yi {M:Mm} {Γ:aC} {w:World} {v:Value} {u:AV} (h:Gk v=some u):aQ c M Γ w u v:=by
 cases v with
 | int k n =>
  cases k with
  | i64 =>
   simp only[Gk] at h
   split at h
   ·rename_i hI; injection h with h; subst h; exact⟨rfl,rfl,hI⟩
   ·cases h
  | u8 =>
   simp only[Gk] at h
   split at h
   ·rename_i hI; injection h with h; subst h; exact⟨rfl,rfl,hI⟩
   ·cases h
  | _=>simp only[Gk] at h; injection h with h; subst h; exact⟨rfl,rfl,trivial⟩
 | string s =>
  simp only[Gk] at h
  split at h
  ·rename_i hI; injection h with h; subst h; exact⟨rfl,rfl,hI⟩
  ·cases h
 | agg _=>cases h
 | tuple _=>cases h
 | _=>simp only[Gk] at h; injection h with h; subst h; exact⟨rfl,rfl,trivial⟩
theorem mK {M:Mm} {Γ:aC} {w:World} {v:AV} {u:Value} (h:aQ c M Γ w v u):aR c M Γ w v u:=by
 cases v<;>first|exact h|exact h.elim
theorem b8 {M:Mm} {Γ:aC} {w:World} {v:AV} {u:Value} (h:bq c M Γ w v u):aR c M Γ w v u:=by
 cases v<;>first|exact h|(simp only[bq,aQ] at h)
theorem ll {σ:St} {Γ:aC} {a:Act} {w:World} (h:aH c σ Γ a w) {x:Operand} {v:AV} (hl:∀t,x=.tmp t->look σ.tmps t=lt t) (hv:ev lt x=some v):aR c σ.mem Γ w v (a.eval x):=by
 cases x with
 | tmp t =>
  obtain⟨u,h1,h2⟩:=h.tm t v ((hl t rfl).trans hv)
  show aR c σ.mem Γ w v (a.tmps.getD t undef)
  rw[Array.getD_eq_getD_getElem?,h1]; exact h2
 | const k=>exact mK (Yi hv)
 | func f=>injection hv with hv; subst hv; exact⟨rfl,rfl,trivial⟩
 | global g=>cases hv
theorem j9 {a:Act} {w w':World} {u:Value} {K:Act->World->Prop} {Q:Exit->Act->World->Prop} (h:(execOp a.eval o).run P w=.ok (.value u) w') (hk:K (a.put o.dst u) w'):o.wp P a w K Q:=by
 unfold Oper.wp; rw[h]; exact hk
theorem IK {a:Act} {w w':World} {K:Act->World->Prop} {Q:Exit->Act->World->Prop} (h:(execOp a.eval o).run P w=.ok .skip w') (hk:K (a.put o.dst undef) w'):o.wp P a w K Q:=by
 unfold Oper.wp; rw[h]; exact hk
theorem fX {x:Operand} {t:Nat} (h:x ∈ o.op.operands.toList) (e:x=.tmp t):t ∈ kG o:=List.mem_filterMap.2 ⟨x,h,by rw[e]⟩
theorem aT.pure {v:AV} {rd:List Nat} (h:∀(σ:St) (Γ:aC) (a:Act) (w:World),aH c σ Γ a w->(∀t ∈ kG o,look σ.tmps t=lt t)->(∀k ∈ rd,look σ.mem k=lm k)->∃u,(execOp a.eval o).run P w=.ok (.value u) w/\aR c σ.mem Γ w v u):aT P c lt lm nx o ⟨v,[],rd⟩:=by
 refine⟨(fun p hp=>by cases hp),fun σ Γ a w hs hl hm _ hd K Q hK=>?_⟩
 obtain⟨u,h1,h2⟩:=h σ Γ a w hs hl hm
 refine j9 h1 (hK Γ _ _ ?_)
 have:=hs.put (d:=o.dst) h2 (fun x hx=>hd x hx)
 unfold St.app
 cases hdst:o.dst<;>simp only[hdst,St.put] at this ⊢<;>exact this
theorem aT.one {v:AV} {rd:List Nat} {k:Nat} {B:ay} (hk:nx<=k\/k ∈ rd)
  (h:∀(σ:St) (Γ:aC) (a:Act) (w:World),aH c σ Γ a w->(∀t ∈ kG o,look σ.tmps t=lt t)->(∀k ∈ rd,look σ.mem k=lm k)->(k ∉ rd->look σ.mem k=none) →
   ∃u w' Γ',((execOp a.eval o).run P w=.ok (.value u) w'\/(execOp a.eval o).run P w=.ok .skip w'/\u=undef)/\aH c ⟨σ.tmps,(k,B) :: σ.mem⟩ Γ' a w'/\aR c ((k,B) :: σ.mem) Γ' w' v u):aT P c lt lm nx o ⟨v,[(k,B)],rd⟩:=by
 refine⟨(fun p hp=>by simp at hp; subst hp; exact hk),fun σ Γ a w hs hl hm hn hd K Q hK=>?_⟩
 obtain⟨u,w',Γ',h1,h2,h3⟩:=h σ Γ a w hs hl hm (fun hk=>hn (k,B) ah hk)
 have h4:K (a.put o.dst u) w':=by
  refine hK Γ' _ _ ?_
  have:=h2.put (d:=o.dst) h3 (fun x hx=>hd x hx)
  unfold St.app
  cases hdst:o.dst<;>simp only[hdst,St.put] at this ⊢<;>exact this
 rcases h1 with h1|⟨h1,rfl⟩
 ·exact j9 h1 h4
 ·exact IK h1 h4
end
def Ty.zc:Ty->List Value
 | .int=>[.int .i64 0]
 | .bool=>[.bool false]
 | .str=>[.string empty]
 | .u8=>[.int .u8 0]
 | .dr f=>[f.val]
 | .prod a b=>a.zc++b.zc
 | .slice _=>[.slice none 0 0]
 | .ext e _=>[e.zv]
def Ty.zv (t:Ty):Value:=if t.isAgg then .agg t.zc.toArray else t.zc.getD 0 undef
def TF:TypeDesc->Bool
 | .struct _|.array _ _=>true
 | _=>false
def tG (P:Program) (ty:TypeId) (t:Ty):Prop :=
 ∃i d,P.info? ty=some i/\i.size=t.size/\i.zero=some t.zv/\P.underlying ty=some d/\TF d=t.isAgg
def bD (P:Program) (T:TypeId->Option Ty):Prop:=∀ty t,T ty=some t->tG P ty t
theorem aaH {P:Program} {ty:TypeId} {t:Ty} (h1:(P.info? ty).map (fun i=>(i.size,i.zero))=some (t.size,some t.zv)) (h2:(P.underlying ty).map TF=some t.isAgg):tG P ty t:=by
 obtain⟨i,hi,e⟩:=map_eq_some_iff.1 h1
 obtain⟨d,hd,e2⟩:=map_eq_some_iff.1 h2
 injection e with e1 e3
 exact⟨i,d,hi,e1,e3,hd,e2⟩
theorem B6 (w:World):∀t:Ty,t.rp.rep w t.zc t.zero []
 | .int=>⟨rfl,rfl,by constructor<;>decide⟩
 | .bool=>⟨rfl,rfl⟩
 | .str=>⟨rfl,rfl,ae⟩
 | .u8=>⟨rfl,rfl,ae⟩
 | .dr _=>⟨rfl,rfl⟩
 | .prod a b=>⟨_,_,[],[],rfl,rfl,B6 w a,B6 w b⟩
 | .slice _=>⟨none,0,rfl,le_refl _,zero_le _,.inl ⟨rfl,rfl⟩⟩
 | .ext _ _=>⟨rfl,rfl⟩
theorem RS (t:Ty):t.zc.length=t.size:=by
 have:=t.rp.len (B6 default t)
 rw[this,t.bW]
theorem sb (t:Ty):t.zv.cells=t.zc.toArray:=by
 cases t with
 | dr k=>cases k<;>rfl
 | ext e a=>cases e<;>rfl
 | _=>rfl
section
variable {P:Program} {ty:TypeId} {t:Ty}
theorem tG.sizeOf (h:tG P ty t) (w:World):(sizeOf ty).run P w=.ok t.size w:=by
 obtain⟨i,d,h1,h2,_⟩:=h
 simp[Go.sizeOf,typeInfo,h1,h2]
theorem tG.zero (h:tG P ty t) (w:World):(zeroValue ty).run P w=.ok t.zv w:=by
 obtain⟨i,d,h1,_,h3,_⟩:=h
 simp[zeroValue,typeInfo,h1,h3]
theorem tG.agg (h:tG P ty t) (w:World):(isAgg ty).run P w=.ok t.isAgg w:=by
 obtain⟨i,d,_,_,_,h4,h5⟩:=h
 have:(underlying ty).run P w=.ok d w:=run_underlying h4 w
 rw[<-h5]
 simp only[isAgg,Sem.run_bind,this,Result.andThen_ok]
 cases d<;>simp[TF]
theorem ew (b o n:Nat):(⟨b,o,none⟩:Addr).add n=⟨b,o+n,none⟩:=by
 unfold Addr.add
 by_cases h:n=0
 ·subst h; rfl
 ·rw[if_neg h]
end
def cellsOf:AV->List AV
 | .agg cs=>cs
 | v=>[v]
def AV.ok:AV->Bool
 | .ke|.dY _=>false
 | _=>true
theorem aR.cells {c:Cx} {M:Mm} {Γ:aC} {w:World} {v:AV} {u:Value} (h:aR c M Γ w v u) (hok:v.ok=true):aA (aQ c M Γ w) (cellsOf v) u.cells.toList:=by
 cases v with
 | ke=>cases hok
 | dY _=>cases hok
 | agg cs=>obtain⟨us,rfl,h⟩:=h; exact h
 | _ =>
  simp only[aR,bq] at h
  have h':=h
  have h1:=h'.one
  have:u.cells=#[u]:=by cases u<;>first|rfl|cases h1
  rw[this]
  exact⟨h',trivial⟩
def vw (t:Ty) (cs:List AV) (off:Nat):AV:=if t.isAgg then .agg ((cs.drop off).take t.size) else cs.getD off .ke
theorem oB {c:Cx} {M:Mm} {Γ:aC} {w:World} {t:Ty} {cs:List AV} {us:List Value} {off:Nat} (h:aA (aQ c M Γ w) cs us) (hl:off+t.size<=cs.length) :
  bq c M Γ w (vw t cs off) (if t.isAgg then .agg ((us.drop off).take t.size).toArray else us.getD off undef):=by
 unfold vw
 cases ha:t.isAgg with
 | true=>exact⟨_,rfl,(h.drop off).take _⟩
 | false =>
  have h1:=t.pos; rw[t.bW] at h1
  have hg:cs[off]? = some cs[off]:=getElem?_eq_getElem J
  obtain⟨u,hu,hr⟩:=h.get hg
  simp only[false_eq_true,if_false]
  rw[getD_eq_getElem?_getD,hg,getD_eq_getElem?_getD,hu]
  show bq c M Γ w cs[off] u
  cases hcs:cs[off]<;>rw[hcs] at hr<;>first|exact hr|exact hr.elim
theorem l8 {P:Program} {ty:TypeId} {t:Ty} (ht:tG P ty t) {w:World} {b off:Nat} {us:List Value} (hc:∀j v,us[j]? = some v->w.cell? ⟨b,off+j,none⟩=some v) (hl:us.length=t.size) :
  (loadVar ty ⟨b,off,none⟩).run P w=.ok (if t.isAgg then .agg us.toArray else us.getD 0 undef) w:=by
 unfold loadVar
 simp only[Sem.run_bind,ht.agg,Result.andThen_ok]
 cases ha:t.isAgg with
 | true =>
  simp only[if_true,Sem.run_bind,ht.sizeOf,Result.andThen_ok]
  rw[<-hl,run_loadCells_list w _ us fun j v hj=>by rw[ew]; exact hc j v hj]
  simp
 | false =>
  simp only[false_eq_true,if_false]
  have h1:=t.pos; rw[t.bW] at h1
  have h0:us[0]? = some us[0]:=getElem?_eq_getElem J
  rw[run_load]
  have:=hc 0 _ h0
  rw[add_zero] at this
  rw[this,getD_eq_getElem?_getD,h0]; rfl
theorem nz {P:Program} (b:Nat):∀(us:List Value) (i off:Nat) (w:World),(∀j,j < us.length->∃v,w.cell? ⟨b,off+i+j,none⟩=some v)->(∀o,w.frozen? ⟨b,o,none⟩=false)->(∀u ∈ us,u.oneCell'=true) →
  (storeCells ⟨b,off,none⟩ us i).run P w=.ok () (putCells w b (off+i) us)
 | [],i,off,w,_,_,_=>rfl
 | u :: us,i,off,w,hc,hf,h1=>by
  obtain⟨v,hv⟩:=hc 0 ah
  have hu:=h1 u mem_cons_self
  rw[storeCells]
  simp only[Sem.run_bind,ew,Ea hu]
  have hst:stored P w ⟨b,off+i,none⟩ u .plain=.ok () (w.setCell ⟨b,off+i,none⟩ u):=by
   simp only[add_zero] at hv
   simp[stored,hv,hf]
  rw[hst,Result.andThen_ok,nz b us (i+1) off _ (fun j hj=>?_) (fun o=>?_) (fun u hu=>h1 u (mem_cons_of_mem _ hu))]
  ·rw[<-add_assoc]; rfl
  ·obtain⟨v',hv'⟩:=hc (j+1) (by simp; omega)
   refine⟨v',?_⟩
   rw[KO _ J,show off+(i+1)+j=off+i+(j+1) from J]
   exact hv'
  ·rw[<-hf o]
   simp only[World.frozen?,World.setCell,Array.getElem?_modify]
   by_cases hb:b=b
   ·simp only[if_true]
    cases h:w.heap[b]? with
    | none=>rfl
    | some x=>cases x<;>rfl
   ·exact absurd rfl hb
def Ky (t:Ty):List AV:=t.zc.map .sc
theorem Dy {c:Cx} {M:Mm} {Γ:aC} {w:World} (t:Ty):aA (aQ c M Γ w) (Ky t) t.zc:=by
 have h:∀v ∈ t.zc,v.oneCell'=true/\jO v:=by
  induction t with
  | int=>intro v hv; rw[mem_singleton.1 hv]; exact⟨rfl,by constructor<;>decide⟩
  | bool=>intro v hv; rw[mem_singleton.1 hv]; exact⟨rfl,trivial⟩
  | str=>intro v hv; rw[mem_singleton.1 hv]; exact⟨rfl,by show (0:Nat)<=_; exact zero_le _⟩
  | u8=>intro v hv; rw[mem_singleton.1 hv]; exact⟨rfl,by constructor<;>decide⟩
  | dr k=>intro v hv; rw[mem_singleton.1 hv]; exact⟨k.one,k.ok⟩
  | prod a b iha ihb=>intro v hv; exact (mem_append.1 hv).elim (iha v) (ihb v)
  | slice a _=>intro v hv; rw[mem_singleton.1 hv]; exact⟨rfl,trivial⟩
  | ext e a _=>intro v hv; rw[mem_singleton.1 hv]; cases e<;>exact⟨rfl,trivial⟩
 unfold Ky
 generalize t.zc=l at h
 induction l with
 | nil=>trivial
 | cons v l ih=>exact⟨⟨rfl,h v mem_cons_self⟩,ih fun u hu=>h u (mem_cons_of_mem _ hu)⟩
def nth {t:Ty} (l:List t.den) (i:Nat):t.den:=l.getD i t.zero
theorem aM {t:Ty} {l:List t.den} {i:Nat} (h:i < l.length):nth l i=l[i]:=by rw[nth,getD_eq_getElem?_getD,getElem?_eq_getElem h]; rfl
def WJ:Option TypeDesc->Bool
 | some (.int .i64)=>true
 | _=>false
def uW (P:Program) (ty:TypeId):Bool :=
 (match P.underlying ty with
  | some (.struct fs)=>(match fs.toList with
   | [f,g]=>(f.name != "_" && g.name != "_") && ((f.offset == 0 && g.offset == 1) && (WJ (P.underlying f.type) && WJ (P.underlying g.type)))
   | _=>false)
  | _=>false) && (!P.stoodInHeld ty && !P.eqGuardType P.depth ty)
def abR (P:Program) (ty:TypeId):Prop:=P.eqGuardType P.depth ty=false/\∀(w:World) (a b a2 b2 c d c2 d2:Int),(Op.equalIn 10000 ty (.agg #[.int .i64 a,.int .i64 b,.int .i64 a2,.int .i64 b2]) (.agg #[.int .i64 c,.int .i64 d,.int .i64 c2,.int .i64 d2])).run P w=.ok (decide (a=c/\b=d/\a2=c2/\b2=d2)) w
def abr (a b q:Int):Prop:=0<=a/\0 < b/\q=a / b\/b ≠ 0/\bU (a.tdiv b)/\q=a.tdiv b
def ab2 (a b q:Int):Prop:=0<=a/\0 < b/\q=a % b\/b ≠ 0/\bU (a.tmod b)/\q=a.tmod b
section
variable (P:Program) (T:TypeId->Option Ty) (lt:Nat->Option AV) (lm:Nat->Option ay) (nx:Nat) (K:bb->Prop)
def BB (x:Operand):Prop :=
 match ev lt x with
 | some v=>K (.val v)
 | none=>False
def G2 (x y z:Operand):Prop :=
 match ev lt x,ev lt y,ev lt z with
 | some (.sc (.bool b)),some v,some u=>(b=true->K (.val v))/\(b=false->K (.val u))
 | _,_,_=>False
def O5 (x:Operand):Prop :=
 match ev lt x with
 | some v=>v.ok=true/\K ⟨.ptr nx 0,[(nx,.box (cellsOf v))],[]⟩
 | none=>False
def Dg (ty:TypeId):Prop :=
 match T ty with
 | some t=>K ⟨.ptr nx 0,[(nx,.box (Ky t))],[]⟩
 | none=>False
def GP (ty:TypeId) (x:Operand):Prop :=
 match T ty,ev lt x with
 | some t,some (.ptr k off) =>
  match lm k with
  | some (.bx _ cs)=>off+t.size<=cs.length/\K ⟨vw t cs off,[],[k]⟩
  | _=>False
 | some t,some (.pL k ver i off) =>
  match lm k with
  | some (.row _ s v _ l)=>v=ver/\i < l.length/\off+t.size<=s.size/\K ⟨vw t (js s (nth l i)) off,[],[k]⟩
  | _=>False
 | some t,some (.ref s x off)=>off+t.size<=s.size/\K ⟨vw t (js s x) off,[],[]⟩
 | _,_=>False
def sI (ty:TypeId) (x y:Operand):Prop :=
 match T ty,ev lt x,ev lt y with
 | some t,some (.ptr k off),some v =>
  match lm k with
  | some (.bx x cs)=>v.ok=true/\(cellsOf v).length=t.size/\off+t.size<=cs.length/\K ⟨.ke,[(k,.bx x (cs.take off++cellsOf v++cs.drop (off+(cellsOf v).length)))],[k]⟩
  | _=>False
 | _,_,_=>False
def qL (s:TypeId) (x:Operand) (f:Nat):Prop :=
 match P.underlying s with
 | some (.struct fs) =>
  match fs[f]? with
  | some fd =>
   match T fd.type,ev lt x with
   | some _,some (.ptr k off)=>K (.val (.ptr k (off+fd.offset)))
   | some _,some (.pL k ver i off) =>
    match lm k with
    | some (.row _ _ v _ _)=>v=ver/\K ⟨.pL k ver i (off+fd.offset),[],[k]⟩
    | _=>False
   | some _,some (.ref t y off)=>K (.val (.ref t y (off+fd.offset)))
   | some _,some (.wk k i s off) =>
    match lm k with
    | some (.cu _ _)=>K ⟨.wk k i s (off+fd.offset),[],[k]⟩
    | _=>False
   | _,_=>False
  | none=>False
 | _=>False
def Ca (s:TypeId) (x:Operand) (f:Nat):Prop :=
 match P.underlying s with
 | some (.struct fs) =>
  match fs[f]? with
  | some fd =>
   match T fd.type,ev lt x with
   | some t,some (.agg cs)=>fd.offset+t.size<=cs.length/\K (.val (vw t cs fd.offset))
   | _,_=>False
  | none=>False
 | _=>False
def lF (a b:Int):Prop:=∃q,abr a b q/\K (.val (.sc (.int .i64 q)))
def fR (a b:Int):Prop:=∃q,ab2 a b q/\K (.val (.sc (.int .i64 q)))
def nC (op:BinOp) (x y:Nat):Prop:=∃r,floatBits op .f64 x y=some r/\K (.val (.sc (.float .f64 r)))
def Py (x:Nat):Prop:=∃n,floatToIntVal .f64 x .i64=some n/\bU n/\K (.val (.sc (.int .i64 n)))
def VL (T:TypeId->Option Ty):Prop:=∀ty,T ty ≠ some .bool
def vP (a b:Int):Int:=IntKind.i64.wrap (BitVec.ofInt 64 a &&& BitVec.ofInt 64 b).toNat
def T4 (a b:Int):Int:=IntKind.i64.wrap (BitVec.ofInt 64 a ^^^ BitVec.ofInt 64 b).toNat
def BL (op:BinOp) (x y:Operand):Prop :=
 match ev lt x,ev lt y with
 | some (.sc (.int .i64 a)),some (.sc (.int .i64 b)) =>
  match op with
  | .add=>K (.val (.sc (.int .i64 (IntKind.i64.wrap (a+b)))))
  | .mul=>K (.val (.sc (.int .i64 (IntKind.i64.wrap (a * b)))))
  | _=>False
 | _,_=>False
def yI (op:BinOp) (ty:TypeId) (x y:Operand):Prop :=
 match ev lt x,ev lt y with
 | some (.sc (.int .i64 a)),some (.sc (.int .i64 b)) =>
  match op with
  | .add=>bU (a+b)/\K (.val (.sc (.int .i64 (a+b))))
  | .sub=>bU (a - b)/\K (.val (.sc (.int .i64 (a - b))))
  | .mul=>bU (a * b)/\K (.val (.sc (.int .i64 (a * b))))
  | .quo=>lF K a b
  | .rem=>fR K a b
  | .lss=>K (.val (.sc (.bool (decide (a < b)))))
  | .leq=>K (.val (.sc (.bool (decide (a<=b)))))
  | .gtr=>K (.val (.sc (.bool (decide (b < a)))))
  | .geq=>K (.val (.sc (.bool (decide (b<=a)))))
  | .eql=>K (.val (.sc (.bool (decide (a=b)))))
  | .neq=>K (.val (.sc (.bool (!decide (a=b)))))
  | .and=>K (.val (.sc (.int .i64 (vP a b))))
  | .xor=>K (.val (.sc (.int .i64 (T4 a b))))
  | _=>False
 | some (.sc (.int .i64 a)),some (.sc (.int .u64 b)) =>
  match op with
  | .shr=>0<=b/\b < 64/\K (.val (.sc (.int .i64 (a.fdiv (2 ^ b.toNat)))))
  | _=>False
 | some (.sc (.bool a)),some (.sc (.bool b)) =>
  P.underlying ty=some .bool ∧
  match op with
  | .eql=>K (.val (.sc (.bool (a == b))))
  | .neq=>K (.val (.sc (.bool (!(a == b)))))
  | _=>False
 | some (.sc (.string a)),some (.sc (.string b)) =>
  P.underlying ty=some .string ∧
  match op with
  | .eql=>K (.val (.sc (.bool (a.toList == b.toList))))
  | .neq=>K (.val (.sc (.bool (!(a.toList == b.toList)))))
  | .add=>(a++b).size<=maxLen/\K (.val (.sc (.string (a++b))))
  | _=>False
 | some (.sc (.float .f64 a)),some (.sc (.float .f64 b)) =>
  match op with
  | .add=>nC K .add a b
  | .sub=>nC K .sub a b
  | .mul=>nC K .mul a b
  | .quo=>nC K .quo a b
  | _=>False
 | some (.sc (.int .u8 a)),some (.sc (.int .u8 b)) =>
  match op with
  | .lss=>K (.val (.sc (.bool (decide (a < b)))))
  | .leq=>K (.val (.sc (.bool (decide (a<=b)))))
  | .gtr=>K (.val (.sc (.bool (decide (b < a)))))
  | .geq=>K (.val (.sc (.bool (decide (b<=a)))))
  | .eql=>K (.val (.sc (.bool (decide (a=b)))))
  | .neq=>K (.val (.sc (.bool (!decide (a=b)))))
  | .sub=>0<=a - b/\a - b<=255/\K (.val (.sc (.int .u8 (a - b))))
  | _=>False
 | some (.agg [.sc (.int .i64 a),.sc (.int .i64 b)]),some (.agg [.sc (.int .i64 c),.sc (.int .i64 d)]) =>
  uW P ty=true ∧
  match op with
  | .eql=>K (.val (.sc (.bool (decide (a=c) && decide (b=d)))))
  | .neq=>K (.val (.sc (.bool (!(decide (a=c) && decide (b=d))))))
  | _=>False
 | some (.agg [.sc (.int .i64 a),.sc (.int .i64 b),.sc (.int .i64 a2),.sc (.int .i64 b2)]),some (.agg [.sc (.int .i64 c),.sc (.int .i64 d),.sc (.int .i64 c2),.sc (.int .i64 d2)]) =>
  abR P ty ∧
  match op with
  | .eql=>K (.val (.sc (.bool (decide (a=c/\b=d/\a2=c2/\b2=d2)))))
  | .neq=>K (.val (.sc (.bool (!decide (a=c/\b=d/\a2=c2/\b2=d2)))))
  | _=>False
 | _,_=>False
def aah:BinOp->Bool
 | .add|.mul=>true
 | _=>false
def G1 (op:BinOp) (ty:TypeId) (x y:Operand):Prop:=if aah op=true then BL lt K op x y else yI P lt K op ty x y
def Ji (op:BinOp) (ty:TypeId) (x y:Operand):Prop:=@ite _ (VL T) (Classical.propDecidable _) (G1 P lt K op ty x y) (yI P lt K op ty x y)
def GQ (s d:TypeId) (x:Operand):Prop :=
 (P.underlying s).isSome=true ∧
 match P.underlying d,ev lt x with
 | some (.float .f64),some (.sc (.int .i64 n))=>K (.val (.sc (.float .f64 (floatOfInt .f64 n))))
 | some (.int .i64),some (.sc (.float .f64 b))=>Py K b
 | some (.int .i64),some (.sc (.int .i64 n))=>K (.val (.sc (.int .i64 n)))
 | some (.int .i64),some (.sc (.int .u8 n))=>K (.val (.sc (.int .i64 n)))
 | some (.int .u8),some (.sc (.int .i64 n))=>0<=n/\n<=255/\K (.val (.sc (.int .u8 n)))
 | some (.int .u8),some (.sc (.int .u8 n))=>K (.val (.sc (.int .u8 n)))
 | _,_=>False
def Wo (op:UnOp) (x:Operand):Prop :=
 match op,ev lt x with
 | .not,some (.sc (.bool b))=>K (.val (.sc (.bool (!b))))
 | .neg,some (.sc (.int .i64 a))=>bU (-a)/\K (.val (.sc (.int .i64 (-a))))
 | _,_=>False
def vu (x:Operand) (i:Nat):Prop :=
 match ev lt x with
 | some (.dY vs) =>
  match vs[i]? with
  | some v=>K (.val v)
  | none=>False
 | _=>False
def C3 (fs:Array Field):List AV->List (Nat × Operand)->Option (List AV)
 | cs,[]=>some cs
 | cs,(i,x) :: rest =>
  match fs[i]?,ev lt x with
  | some fd,some v =>
   match T fd.type with
   | some ft=>if v.ok=true/\(cellsOf v).length=ft.size/\fd.offset+(cellsOf v).length<=cs.length then C3 fs (cs.take fd.offset++cellsOf v++cs.drop (fd.offset+(cellsOf v).length)) rest else none
   | none=>none
  | _,_=>none
def Dm (ty:TypeId) (parts:Array (Nat × Operand)):Prop :=
 match T ty,P.underlying ty with
 | some t,some (.struct fs) =>
  fs.toList.all (fun fd=>(T fd.type).isSome)=true ∧
  match C3 T lt fs (Ky t) parts.toList with
  | some cs=>K (.val (.agg cs))
  | none=>False
 | _,_=>False
end
section
variable {P:Program} {T:TypeId->Option Ty} {c:Cx} {lt:Nat->Option AV} {lm:Nat->Option ay} {nx:Nat} {K:bb->Prop} {o:Oper}
theorem aX {σ:St} {Γ:aC} {a:Act} {w:World} (hs:aH c σ Γ a w) (hl:∀t ∈ kG o,look σ.tmps t=lt t) {x:Operand} {v:AV} (hx:x ∈ o.op.operands.toList) (hv:ev lt x=some v):aR c σ.mem Γ w v (a.eval x) :=
 ll hs (fun t e=>hl t (fX hx e)) hv
theorem M5 {M:Mm} {Γ:aC} {w:World} {v:AV} {u:Value} (h:aR c M Γ w v u) (hok:v.ok=true):bq c M Γ w v u:=by
 cases v<;>first|exact h|cases hok
theorem G9 {x:Operand} (ho:o.op=.move x\/o.op=.assign x) (h:BB lt K x):∃e,K e/\aT P c lt lm nx o e:=by
 unfold BB at h
 split at h
 ·rename_i v hv
  refine⟨_,h,aT.pure fun σ Γ a w hs hl _=>⟨a.eval x,?_,?_⟩⟩
  ·rcases ho with ho|ho<;>simp[execOp,ho]
  ·exact aX hs hl (by rcases ho with ho|ho<;>simp[ho,Op.operands]) hv
 ·exact h.elim
theorem Vn {x y z:Operand} (ho:o.op=.pick x y z) (h:G2 lt K x y z):∃e,K e/\aT P c lt lm nx o e:=by
 unfold G2 at h
 split at h
 ·rename_i b v u hx hy hz
  have key:∀q:AV,(b=true/\q=v\/b=false/\q=u)->aT P c lt lm nx o (.val q):=by
   intro q hq
   refine aT.pure fun σ Γ a w hs hl _=>⟨if b=true then a.eval y else a.eval z,?_,?_⟩
   ·have h1:aR c σ.mem Γ w _ (a.eval x):=aX hs hl (by simp[ho,Op.operands]) hx
    have h2:a.eval x=.bool b:=h1.1
    simp[execOp,ho,asBool,h2]
   ·rcases hq with ⟨rfl,rfl⟩|⟨rfl,rfl⟩
    ·exact aX hs hl (by simp[ho,Op.operands]) hy
    ·exact aX hs hl (by simp[ho,Op.operands]) hz
  cases b
  ·exact⟨_,h.2 rfl,key u (.inr ⟨rfl,rfl⟩)⟩
  ·exact⟨_,h.1 rfl,key v (.inl ⟨rfl,rfl⟩)⟩
 ·exact h.elim
theorem XX {ty:TypeId} {x:Operand} (ho:o.op=.box ty x) (h:O5 lt nx K x):∃e,K e/\aT P c lt lm nx o e:=by
 unfold O5 at h
 split at h
 ·rename_i v hv
  refine⟨_,h.2,aT.one (.inl (le_refl _)) fun σ Γ a w hs hl _ hn=>?_⟩
  have hr:=(aX hs hl (x:=x) (by simp[ho,Op.operands]) hv).cells h.1
  refine⟨.pointer (some ⟨w.heap.size,0,none⟩),_,_,.inl ?_,hs.P8 (hn ah) ty hr,?_⟩
  ·simp[execOp,ho,Instr.box,newVar,newRow]
  ·exact⟨none,_,aD ..,by show _=Value.pointer (some ⟨(Γ.iZ nx w.heap.size).β nx,0,none⟩); rw[aC.iJ]⟩
 ·exact h.elim
theorem QN (hT:bD P T) {ty:TypeId} (ho:o.op=.alloc ty) (h:Dg T nx K ty):∃e,K e/\aT P c lt lm nx o e:=by
 unfold Dg at h
 split at h
 ·rename_i t ht
  refine⟨_,h,aT.one (.inl (le_refl _)) fun σ Γ a w hs hl _ hn=>?_⟩
  have hr':aA (aQ c σ.mem Γ w) (Ky t) t.zv.cells.toList:=by rw[sb]; exact Dy t
  refine⟨.pointer (some ⟨w.heap.size,0,none⟩),_,_,.inl ?_,hs.P8 (hn ah) ty hr',?_⟩
  ·simp[execOp,ho,Instr.alloc,(hT ty t ht).zero,newVar,newRow]
  ·exact⟨none,_,aD ..,by show _=Value.pointer (some ⟨(Γ.iZ nx w.heap.size).β nx,0,none⟩); rw[aC.iJ]⟩
 ·exact h.elim
theorem vT {σ:St} {Γ:aC} {a:Act} {w:World} (hs:aH c σ Γ a w) {k:Nat} {xo:Option Nat} {cs:List AV} (hk:look σ.mem k=some (.bx xo cs)) :
  ∃us e,w.heap[Γ.loc k xo]? = some (.cells us e (0,0))/\aA (aQ c σ.mem Γ w) cs us.toList:=(hs.mm k _ hk).2
theorem TE (hT:bD P T) {ty:TypeId} {x:Operand} (ho:o.op=.load ty x) (h:GP T lt lm K ty x):∃e,K e/\aT P c lt lm nx o e:=by
 unfold GP at h
 have hmem:x ∈ o.op.operands.toList:=by simp[ho,Op.operands]
 split at h
 ·rename_i t k off ht hx
  split at h
  ·rename_i xo cs hk
   refine⟨_,h.2,aT.pure fun σ Γ a w hs hl hm=>?_⟩
   have hk':=(hm k ah).trans hk
   obtain⟨us,e,hg,hc⟩:=vT hs hk'
   have hp:aR c σ.mem Γ w _ (a.eval x):=aX hs hl hmem hx
   have hp':a.eval x=.pointer (some ⟨Γ.loc k xo,off,none⟩):=by
    obtain⟨xo',cs',hq,he⟩:=hp
    rw[hk'] at hq; cases hq; exact he
   have hlen:=hc.len
   have hrun:=l8 (P:=P) (hT ty t ht) (w:=w) (b:=Γ.loc k xo) (off:=off) (us:=(us.toList.drop off).take t.size) (fun j v hv=>by
    rw[getElem?_take] at hv
    split at hv
    ·rw[getElem?_drop,getElem?_toList] at hv
     rw[cell_of_row w _ _ us e (0,0) hg]; exact hv
    ·cases hv) (by have:=h.1; rw[hlen] at this; rw[length_take,length_drop]; omega)
   have hg:=oB hc h.1
   refine⟨_,?_,b8 hg⟩
   simp only[execOp,ho,hp',Instr.loadAt,Instr.sureAddr,Sem.run_bind,Sem.run_pure,Result.andThen_ok,hrun]
   cases ha:t.isAgg with
   | true=>rfl
   | false =>
    simp only[false_eq_true,if_false]
    have:=t.pos; rw[t.bW] at this
    rw[getD_eq_getElem?_getD,getElem?_take,if_pos this,getElem?_drop,add_zero,getD_eq_getElem?_getD]
  ·exact h.elim
 ·rename_i t k ver i off ht hx
  split at h
  ·rename_i e s v oo l hk
   obtain⟨rfl,hi,hl2,hK⟩:=h
   refine⟨_,hK,aT.pure fun σ Γ a w hs hl hm=>?_⟩
   have hk':=(hm k ah).trans hk
   obtain⟨fps,hg,hf,hgd,_⟩:=hs.mm k _ hk'
   obtain⟨_,B,hB,hp⟩:=(aX hs hl hmem hx:aR c σ.mem Γ w _ (a.eval x))
   rw[hk'] at hB; injection hB with hB; subst hB
   obtain⟨_,hp⟩:=hp e s v oo l rfl
   obtain⟨g,n,cap,hhd,hpt⟩:=hp rfl
   obtain⟨⟨xs,ho2,hfl,he⟩,_⟩:=hg
   obtain⟨f,cs,hfi,hr,hcs⟩:=he i l[i] (getElem?_eq_getElem hi)
   have hgd':∀b ∈ f,Gd c σ.mem Γ b:=fun b hb=>hgd b (by rw[hf]; exact mem_flatten.2 ⟨f,mem_of_getElem? hfi,hb⟩)
   have hc:=oQ hr hgd'
   have hlen:=hc.len
   have hcl:=s.rp.len hr
   rw[s.bW] at hcl
   have hcell:∀j u,cs[j]? = some u->w.cell? ⟨g,i * s.rp.size+j,none⟩=some u:=by
    intro j u hj
    have h1:=hcs j u hj
    rcases ho2.2 with ⟨hn,_⟩|⟨g',cap',cur,hv,_,hg',_,_,_,ht'⟩
    ·rw[hn] at hhd; cases hhd
    ·rw[hv] at hhd
     injection hhd with hhd; injection hhd with hhd; injection hhd with hhd
     subst hhd
     rw[cell_of_row w g' _ cur _ (0,0) hg',<-getElem?_toList]
     rw[<-ht',getElem?_take] at h1
     split at h1
     ·exact h1
     ·cases h1
   have hrun:=l8 (P:=P) (hT ty t ht) (w:=w) (b:=g) (off:=i * s.rp.size+off) (us:=(cs.drop off).take t.size) (fun j v hv=>by
    rw[getElem?_take] at hv
    split at hv
    ·rw[getElem?_drop] at hv
     rw[add_assoc]; exact hcell _ v hv
    ·cases hv) (by rw[length_take,length_drop]; omega)
   have hget:nth l i=l[i]:=aM hi
   rw[hget]
   have hg:=oB (t:=t) (off:=off) hc J
   refine⟨_,?_,b8 hg⟩
   simp only[execOp,ho,hpt,Instr.loadAt,Instr.sureAddr,Sem.run_bind,Sem.run_pure,Result.andThen_ok,hrun]
   cases ha:t.isAgg with
   | true=>rfl
   | false =>
    simp only[false_eq_true,if_false]
    have:=t.pos; rw[t.bW] at this
    rw[getD_eq_getElem?_getD,getElem?_take,if_pos this,getElem?_drop,add_zero,getD_eq_getElem?_getD]
  ·exact h.elim
 ·rename_i t s y off ht hx
  obtain⟨hl2,hK⟩:=h
  refine⟨_,hK,aT.pure fun σ Γ a w hs hl hm=>?_⟩
  obtain⟨b,oo,cs,fp,hpt,hr,hcell,_,hgd,_⟩:=(aX hs hl hmem hx:aR c σ.mem Γ w _ (a.eval x))
  have hc:=oQ hr hgd
  have hlen:=hc.len
  have hcl:=s.rp.len hr
  rw[s.bW] at hcl
  have hrun:=l8 (P:=P) (hT ty t ht) (w:=w) (b:=b) (off:=oo+off) (us:=(cs.drop off).take t.size) (fun j v hv=>by
   rw[getElem?_take] at hv
   split at hv
   ·rw[getElem?_drop] at hv
    rw[add_assoc]; exact hcell _ v hv
   ·cases hv) (by rw[length_take,length_drop]; omega)
  have hg:=oB (t:=t) (off:=off) hc J
  refine⟨_,?_,b8 hg⟩
  simp only[execOp,ho,hpt,Instr.loadAt,Instr.sureAddr,Sem.run_bind,Sem.run_pure,Result.andThen_ok,hrun]
  cases ha:t.isAgg with
  | true=>rfl
  | false =>
   simp only[false_eq_true,if_false]
   have:=t.pos; rw[t.bW] at this
   rw[getD_eq_getElem?_getD,getElem?_take,if_pos this,getElem?_drop,add_zero,getD_eq_getElem?_getD]
 ·exact h.elim
theorem IG (hT:bD P T) {ty:TypeId} {x y:Operand} (ho:o.op=.store ty x y) (h:sI T lt lm K ty x y):∃e,K e/\aT P c lt lm nx o e:=by
 unfold sI at h
 split at h
 ·rename_i t k off v ht hx hy
  split at h
  ·rename_i xo cs hk
   obtain⟨hok,hl1,hl2,hK⟩:=h
   refine⟨_,hK,aT.one (.inr ah) fun σ Γ a w hs hl hm _=>?_⟩
   have hk':=(hm k ah).trans hk
   obtain⟨us,e,hg,hc⟩:=vT hs hk'
   have hp:a.eval x=.pointer (some ⟨Γ.loc k xo,off,none⟩):=by
    obtain⟨xo',cs',hq,he⟩:=(aX hs hl (by simp[ho,Op.operands]) hx:aR c σ.mem Γ w _ (a.eval x))
    rw[hk'] at hq; cases hq; exact he
   have hr:=(aX hs hl (x:=y) (by simp[ho,Op.operands]) hy).cells hok
   have hlr:=hr.len
   have hlc:=hc.len
   simp at hlc hlr
   have hone:∀u ∈ (a.eval y).cells.toList,u.oneCell'=true:=by
    intro u hu
    obtain⟨j,hj,rfl⟩:=getElem_of_mem hu
    obtain⟨v',hv'⟩:∃v',(cellsOf v)[j]? = some v':=⟨_,getElem?_eq_getElem (by rw[hr.len]; exact hj)⟩
    obtain⟨u',hu',hrr⟩:=hr.get hv'
    rw[getElem?_eq_getElem hj] at hu'
    injection hu' with hu'
    rw[hu']; exact hrr.one
   refine⟨undef,_,Γ,.inr ⟨?_,rfl⟩,hs.aaL (off:=off) hk' hr J,trivial⟩
   have hst:=nz (P:=P) (Γ.loc k xo) (a.eval y).cells.toList 0 off w (fun j hj=>⟨us[off+j]'(by simp at hj; omega),by rw[cell_of_row w _ _ us e (0,0) hg,add_zero,Array.getElem?_eq_getElem]⟩) (fun oo=>frozen_of_row w _ oo us e hg) hone
   have hsz:(a.eval y).cells.size=t.size:=J
   simp only[execOp,ho,hp,Instr.storeAt,Instr.sureAddr,storeVar,Sem.run_bind,Sem.run_pure,Result.andThen_ok,(hT ty t ht).sizeOf,hsz,ne_eq,not_true_eq_false,if_false]
   rw[hst]; rfl
  ·exact h.elim
 ·exact h.elim
theorem Gu (hT:bD P T) {s:TypeId} {x:Operand} {f:Nat} (ho:o.op=.fieldAddr s x f) (h:qL P T lt lm K s x f):∃e,K e/\aT P c lt lm nx o e:=by
 unfold qL at h
 have hmem:x ∈ o.op.operands.toList:=by simp[ho,Op.operands]
 split at h
 ·rename_i fs hu
  split at h
  ·rename_i fd hf
   have key:∀(ft:Ty) (b oo:Nat) (a:Act) (w:World),T fd.type=some ft->a.eval x=.pointer (some ⟨b,oo,none⟩)->(execOp a.eval o).run P w=.ok (.value (.pointer (some ⟨b,oo+fd.offset,none⟩))) w:=by
    intro ft b oo a w hft hp
    have hsz:=(hT _ _ hft).sizeOf w
    have hp0:=ft.pos; rw[ft.bW] at hp0
    simp only[execOp,ho,hp,Instr.fieldAt,Instr.sureAddr,Sem.run_bind,run_underlying hu,Result.andThen_ok,hf,Sem.run_pure,fieldPlace,hsz]
    rw[if_neg J]
    simp only[Sem.run_pure,Result.andThen_ok,ew]
   split at h
   ·rename_i ft k off hft hx
    refine⟨_,h,aT.pure fun σ Γ a w hs hl _=>?_⟩
    obtain⟨xo,cs,hcs,hp⟩:=(aX hs hl hmem hx:aR c σ.mem Γ w _ (a.eval x))
    exact⟨_,key ft _ _ a w hft hp,xo,cs,hcs,rfl⟩
   ·rename_i ft k ver i off hft hx
    split at h
    ·rename_i e s' v oo l hk
     obtain⟨rfl,hK⟩:=h
     refine⟨_,hK,aT.pure fun σ Γ a w hs hl hm=>?_⟩
     have hk':=(hm k ah).trans hk
     obtain⟨h1,B,hB,hp⟩:=(aX hs hl hmem hx:aR c σ.mem Γ w _ (a.eval x))
     rw[hk'] at hB; injection hB with hB; subst hB
     obtain⟨hle,hp⟩:=hp e s' v oo l rfl
     obtain⟨g,n,cap,hhd,hpt⟩:=hp rfl
     refine⟨_,key ft _ _ a w hft hpt,rfl,_,hk',fun e2 t2 v2 o2 l2 he=>?_⟩
     injection he with e1 e2 e3 e4 e5
     subst e2 e3
     exact⟨hle,fun _=>⟨g,n,cap,hhd,by rw[add_assoc]⟩⟩
    ·exact h.elim
   ·rename_i ft t y off hft hx
    refine⟨_,h,aT.pure fun σ Γ a w hs hl _=>?_⟩
    obtain⟨b,oo,cs,fp,hp,hr,hrest⟩:=(aX hs hl hmem hx:aR c σ.mem Γ w _ (a.eval x))
    exact⟨_,key ft _ _ a w hft hp,b,oo,cs,fp,by rw[add_assoc],hr,hrest⟩
   ·rename_i ft k i s off hft hx
    split at h
    ·rename_i t l hk
     refine⟨_,h,aT.pure fun σ Γ a w hs hl hm=>?_⟩
     have hk':=(hm k ah).trans hk
     obtain⟨h1,B,hB,hp⟩:=(aX hs hl hmem hx:aR c σ.mem Γ w _ (a.eval x))
     rw[hk'] at hB; injection hB with hB; subst hB
     obtain⟨g,o,n,cap,hhd,hpt⟩:=hp t l rfl
     refine⟨_,key ft _ _ a w hft hpt,rfl,_,hk',fun t2 l2 _=>⟨g,o,n,cap,hhd,by rw[add_assoc]⟩⟩
    ·exact h.elim
   ·exact h.elim
  ·exact h.elim
 ·exact h.elim
end
def vj:Option TypeDesc->Bool
 | some (.slice _)=>true
 | _=>false
theorem rf {d:Option TypeDesc} (h:vj d=true):∃e,d=some (.slice e):=by
 unfold vj at h; split at h
 ·exact⟨_,rfl⟩
 ·cases h
section
variable (P:Program) (T:TypeId->Option Ty) (lt:Nat->Option AV) (lm:Nat->Option ay) (nx:Nat) (K:bb->Prop)
def aax {B:Ty} (l:List (Ty.prod .int B).den) (i:Nat) (n:Int):List (Ty.prod .int B).den:=l.set i (n,(nth (t:=.prod .int B) l i).2)
def vq (ty:TypeId) (x y:Operand):Prop:=False/\(
 match T ty,ev lt x,ev lt y with
 | some .int,some (.wk k i s 0),some (.sc (.int .i64 n)) =>
  match lm k with
  | some (.cu (.prod .int B) l)=>s=Ty.size (.prod .int B)/\i < l.length/\K ⟨.ke,[(k,.cu (.prod .int B) (aax l i n))],[k]⟩
  | _=>False
 | _,_,_=>False)
def Pj (ty:TypeId) (x:Operand):Prop :=
 match ev lt x with
 | some (.sc (.string s))=>P.underlying ty=some .string/\K (.val (.sc (.int .i64 s.size)))
 | some (.sc (.slice none 0 0))=>vj (P.underlying ty)=true/\K (.val (.sc (.int .i64 0)))
 | some v =>
  match v.data lm with
  | some ⟨_,l⟩=>vj (P.underlying ty)=true/\K ⟨.sc (.int .i64 l.length),[],v.rows⟩
  | none =>
   match v with
   | .row k n =>
    match lm k with
    | some (.cu _ l)=>n=0/\vj (P.underlying ty)=true/\K ⟨.sc (.int .i64 l.length),[],[k]⟩
    | some (.bx _ _)=>vj (P.underlying ty)=true/\K ⟨.sc (.int .i64 n),[],[k]⟩
    | _=>False
   | _=>False
 | none=>False
def EG (v:AV) (t:Ty) (l:List t.den) (i:Nat):AV :=
 match v with
 | .row k ver=>match lm k with
  | some (.row ..)=>.pL k ver i 0
  | _=>.ref t (nth l i) 0
 | _=>.ref t (nth l i) 0
def qv (ty:TypeId) (x y:Operand):Prop :=
 match P.underlying ty with
 | some (.slice e) =>
  match T e,ev lt x,ev lt y with
  | some t,some v,some (.sc (.int .i64 z)) =>
   match v.data lm with
   | some ⟨s,l⟩=>t.size=s.size/\0<=z/\z < l.length/\K ⟨EG lm v s l z.toNat,[],v.rows⟩
   | none =>
    match v with
    | .row k n =>
     match lm k with
     | some (.cu s l)=>n=0/\t.size=s.size/\0<=z/\z < l.length/\K ⟨.wk k z.toNat s.size 0,[],[k]⟩
     | some (.bx _ _)=>0<=z/\z < n/\K ⟨.ptr k (z.toNat * t.size),[],[k]⟩
     | _=>False
    | _=>False
  | _,_,_=>False
 | _=>False
def ay.fz:ay->Option ay
 | .row _ t v _ l=>some (.jH t v l)
 | .cU t l=>some (.jH t 0 l)
 | .cu t l=>some (.jH t 0 l)
 | _=>none
def aJ (lm:Nat->Option ay):List Nat->Mm
 | []=>[]
 | k :: ks=>match (lm k).bind ay.fz with
  | some B=>aJ (fun j=>if j=k then some B else lm j) ks++[(k,B)]
  | none=>aJ lm ks
def aN (k:Nat):(t:Ty)->t.den->List AV × Mm
 | .int,n=>([.sc (.int .i64 n)],[])
 | .bool,b=>([.sc (.bool b)],[])
 | .str,s=>([.sc (.string s)],[])
 | .u8,n=>([.sc (.int .u8 n)],[])
 | .dr f,_=>([.sc (f.val)],[])
 | .slice a,l=>([.row k 0],[(k,.cU a l)])
 | .ext e a,x=>([zZ e a x],[])
 | .prod a b,x=>((aN k a x.1).1++(aN (k+(aN k a x.1).2.length) b x.2).1,(aN (k+(aN k a x.1).2.length) b x.2).2++(aN k a x.1).2)
def jI (k:Nat) (d:aL):AV:=if d.1.isAgg then .agg (aN k d.1 d.2).1 else (aN k d.1 d.2).1.headD .ke
def ay.Vv:ay->ay
 | .cu t l=>.cU t l
 | B=>B
def ay.Ht:ay->ay
 | .cU t l=>.cu t l
 | B=>B
def kJ (lm:Nat->Option ay):Nat->Option ay:=fun k=>(lm k).map ay.Vv
def dF:Mm->Mm
 | []=>[]
 | p :: L=>(p.1,p.2.Ht) :: dF L
def AS (nx:Nat) (rows:List Nat) (own:Bool) (d:aL):bb:=if own then ⟨jI nx d,dF (aN nx d.1 d.2).2,rows⟩ else ⟨av d.1 d.2,[],rows⟩
def FnM (P:Program) (f:FuncId) (t:Ty) (x x':t.den) (k r:Int):Prop :=
 (∀vs w,(callFunc f vs).run P w=.ok (.enter f vs) w)/\bU r ∧
 ∀(w:World) (v:Value) (cs:List Value) (fp:List Nat),pk t v cs->t.rp.rep w cs x fp->fp.Nodup->(∀b ∈ fp,pU w b)->Calls P f #[v,.int .i64 k] w (Post (UK t.rp cs x' fp r w))
def LW (P:Program) (f:FuncId) (args:List aL) (i:Nat):Prop :=
 (∀vs w,(callFunc f vs).run P w=.ok (.enter f vs) w) ∧
 ∀(w:World) (vs:List Value),Gw P w->aA (fun v d=>∃fp,bV w v d fp) vs args->Calls P f vs.toArray w fun e w'=>Below w.heap.size w w'/\∃v,vs[i]? = some v/\e=.returned v
def FnT (P:Program) (f:FuncId) (args:List aL) (res:List aL):Prop :=
 (∀vs w,(callFunc f vs).run P w=.ok (.enter f vs) w) ∧
 ∀(w:World) (vs:List Value) (S:Nat->Prop),Gw P w->aA (fun v d=>∃fp,bV w v d fp/\∀b ∈ fp,S b) vs args →
  Calls P f vs.toArray w fun e w'=>Below w.heap.size w w'/\∃us:List Value,e=.returned (.tuple us.toArray)/\aA (oy true w.heap.size S w') us res
def xt (P:Program) (f:FuncId) (args:List aL) (e:TypeId) (t:Ty) (l:List t.den):Prop :=
 (∀vs w,(callFunc f vs).run P w=.ok (.enter f vs) w) ∧
 ∀(w:World) (vs:List Value) (S:Nat->Prop),Gw P w->aA (fun v d=>∃fp,bV w v d fp/\∀b ∈ fp,S b) vs args →
  Calls P f vs.toArray w fun en w'=>Below w.heap.size w w'/\∃(v:Value) (fps:List (List Nat)),en=.returned v/\v.oneCell'=true/\bh t.rp w.heap.size w' e v l fps/\kF w.heap.size w' fps.flatten/\∀b ∈ fps.flatten,v.ownBlock ≠ some b
def WY (P:Program) (f:FuncId) (args:List aL) (e:TypeId) (t:Ty) (l:List t.den):Prop :=
 (∀vs w,(callFunc f vs).run P w=.ok (.enter f vs) w) ∧
 ∀(w:World) (vs:List Value) (S:Nat->Prop),Gw P w->aA (fun v d=>∃fp,bV w v d fp/\∀b ∈ fp,S b) vs args →
  Calls P f vs.toArray w fun en w'=>Below w.heap.size w w'/\∃(v:Value) (fps:List (List Nat)),en=.returned v/\v.oneCell'=true/\bh t.rp w.heap.size w' e v l fps/\∀b ∈ fps.flatten,(S b\/w.heap.size<=b)/\v.ownBlock ≠ some b
def kl (P:Program) (f:FuncId) (xs:List lC) (e:TypeId) (t:Ty) (l l':List t.den) (ret:Bool):Prop :=
 (∀vs w,(callFunc f vs).run P w=.ok (.enter f vs) w) ∧
 ∀(w:World) (base:Nat) (v:Value) (fps:List (List Nat)),Gw P w->(∀b ∈ fps.flatten,v.ownBlock ≠ some b)->(∀g,v.ownBlock=some g->∀g',P.globalNamed gH=some g'->g ≠ g')->v.oneCell'=true->bh t.rp base w e v l fps →
  Calls P f (v :: xs.map lC.val).toArray w fun en w'=>∃(v':Value) (fps':List (List Nat)),en=.returned (if ret then v' else .tuple #[])/\(ret=false->v'=v)/\v'.oneCell'=true/\v'.ownBlock=v.ownBlock/\bh t.rp base w' e v' l' fps'/\w.grownBy w' v.ownBlock/\∀b ∈ fps'.flatten,b ∈ fps.flatten
def VR (P:Program) (f:FuncId) (ds:List aL) (e:TypeId) (t:Ty) (l l':List t.den):Prop :=
 (∀vs w,(callFunc f vs).run P w=.ok (.enter f vs) w) ∧
 ∀(w:World) (base:Nat) (v:Value) (us:List Value) (fps:List (List Nat)),Gw P w->(∀b ∈ fps.flatten,v.ownBlock ≠ some b)->(∀g,v.ownBlock=some g->∀g',P.globalNamed gH=some g'->g ≠ g')->v.oneCell'=true->bh t.rp base w e v l fps->aA (fun u d=>∃fp,bV w u d fp/\∀b ∈ fp,v.ownBlock ≠ some b) us ds →
  Calls P f (v :: us).toArray w fun en w'=>∃(v':Value) (fps':List (List Nat)),en=.returned v'/\v'.oneCell'=true/\v'.ownBlock=v.ownBlock/\bh t.rp base w' e v' l' fps'/\w.grownBy w' v.ownBlock/\∀b ∈ fps'.flatten,b ∈ fps.flatten
def Xs (P:Program) (f:FuncId) (t:Ty) (l:List t.den) (zs zs':List Value) (args:List aL) (own:Bool) (d:aL):Prop :=
 (∀vs w,(callFunc f vs).run P w=.ok (.enter f vs) w)/\(∀z ∈ zs',z.oneCell'=true/\jO z) ∧
 ∀(w:World) (b:Nat) (u0:Value) (e:TypeId) (fp:List Nat) (vs:List Value) (S:Nat->Prop),Gw P w->(∀g,P.globalNamed gH=some g->b ≠ g)->w.heap[b]? = some (.cells (u0 :: zs).toArray e (0,0))->(∀z ∈ zs,jO z)->(Rp.slice t.rp t.pos).rep w [u0] l fp->(∀x ∈ fp,S x)->¬ S b->aA (fun v d=>∃fp,bV w v d fp/\∀b ∈ fp,S b) vs args →
  Calls P f (.pointer (some ⟨b,0,none⟩) :: vs).toArray w fun en w'=>ep (fun x=>x=b) w.heap.size w w'/\(∃e,w'.heap[b]? = some (.cells (u0 :: zs').toArray e (0,0)))/\∃v,en=.returned v/\pb own w.heap.size S w' v [d]
def Qz (P:Program) (f:FuncId) (t:Ty) (l:List t.den) (zs:List Value) (args:List aL):Prop :=
 (∀vs w,(callFunc f vs).run P w=.ok (.enter f vs) w)/\(∀z ∈ zs,z.oneCell'=true/\jO z) ∧
 ∀(w:World) (u0:Value) (fp:List Nat) (vs:List Value) (S:Nat->Prop),Gw P w->(Rp.slice t.rp t.pos).rep w [u0] l fp->(∀x ∈ fp,S x)->aA (fun v d=>∃fp,bV w v d fp/\∀b ∈ fp,S b) vs args →
  Calls P f (u0 :: vs).toArray w fun en w'=>Below w.heap.size w w'/\∃(b:Nat) (e:TypeId),en=.returned (.pointer (some ⟨b,0,none⟩))/\w.heap.size<=b/\w'.heap[b]? = some (.cells (u0 :: zs).toArray e (0,0))
def FnW (P:Program) (f:FuncId) (args:Nat->List aL) (I I':Obj->Prop) (res:List aL):Prop :=
 (∀vs w,(callFunc f vs).run P w=.ok (.enter f vs) w)/\(res.all fun d=>d.1.flat)=true ∧
 ∀(w:World) (b:Nat) (o:Obj) (vs:List Value) (S:Nat->Prop),Gw P w->(∀g,P.globalNamed gH=some g->b ≠ g)->w.heap[b]? = some o->I o->¬ S b->aA (fun v d=>∃fp,bV w v d fp/\∀x ∈ fp,S x) vs (args b) →
  Calls P f vs.toArray w fun en w'=>ep (fun x=>x=b) w.heap.size w w'/\(∃o',w'.heap[b]? = some o'/\I' o')/\∃v,en=.returned v/\pb false w.heap.size S w' v res
def Ou (zs:List Value) (o:Obj):Prop:=∃e,o=.cells zs.toArray e (0,0)
def ts (β:Nat->Nat) (k:Nat):ay->ay
 | .bx none cs=>.bx (some (β k)) cs
 | B=>B
def bw (β:Nat->Nat):Mm->Mm
 | []=>[]
 | p :: M=>(p.1,ts β p.1 p.2) :: bw β M
def n0 (P:Program) (f:FuncId) (vs:List AV) (M:Mm) (v:AV) (M':Mm):Prop :=
 (∀vs w,(callFunc f vs).run P w=.ok (.enter f vs) w)/\(v=.dY []\/∃x,v=.sc x) ∧
 ∀(c:Cx) (Γ:aC) (a:Act) (w:World) (us:List Value),CG P c->c.base=w.heap.size->c.w0=w->aH c ⟨[],bw Γ.β M⟩ Γ a w->aA (fun v u=>bq c (bw Γ.β M) Γ w v u) vs us →
  Calls P f us.toArray w fun e w'=>∃(u:Value) (Γ':aC) (a':Act) (n:Nat),e=.returned u/\aH ⟨c.base,c.w0,c.S,n,c.X⟩ ⟨[],bw Γ.β M'⟩ Γ' a' w'/\aR c (bw Γ.β M') Γ' w' v u
def kC (ks:List Nat):List Nat->List Nat
 | []=>[]
 | k :: l=>if k ∈ ks then kC ks l else k :: kC ks l
theorem sC {ks:List Nat}:∀{l:List Nat} {k:Nat},k ∈ kC ks l ↔ k ∈ l/\k ∉ ks
 | [],k=>⟨(fun h=>nomatch h),(fun h=>nomatch h.1)⟩
 | j :: l,k=>by
  unfold kC
  split
  ·rename_i hj
   rw[sC,mem_cons]
   refine⟨fun h=>⟨.inr h.1,h.2⟩,fun h=>⟨h.1.resolve_left fun e=>h.2 (e ▸ hj),h.2⟩⟩
  ·rename_i hj
   rw[mem_cons,mem_cons,sC]
   refine⟨fun h=>h.elim (fun e=>⟨.inl e,e ▸ hj⟩) fun h=>⟨.inr h.1,h.2⟩,fun h=>h.1.elim .inl fun h1=>.inr ⟨h1,h.2⟩⟩
def wh (lm:Nat->Option ay) (ba:List Nat) (u v:AV):Prop :=
 match v with
 | .sc x=>u=.sc x
 | .sl t l=>(u.data lm=some ⟨t,l⟩/\∀k ∈ u.rows,k ∉ ba)\/(u=.sc (.slice none 0 0)/\l=[])
 | .row k ver=>u=.row k ver/\k ∈ ba
 | .ptr k off=>u=.ptr k off/\k ∈ ba
 | _=>False
def AQ (lm:Nat->Option ay) (ba:List Nat) (u v:AV):Prop :=
 match v with
 | .agg cs=>match u with
  | .agg cs0=>aA (wh lm ba) cs0 cs
  | _=>False
 | v=>wh lm ba u v
def Et (ba:List Nat) (u v:AV):Prop :=
 match v with
 | .sc x=>u=.sc x
 | .sl t l=>u=.sl t l\/(u=.sc (.slice none 0 0)/\l=[])
 | .row k ver=>u=.row k ver/\k ∈ ba
 | .ptr k off=>u=.ptr k off/\k ∈ ba
 | _=>False
def jT (lm:Nat->Option ay) (ba:List Nat) (k:Nat) (B:ay):Prop :=
 match B with
 | .bx none cs=>match lm k with
  | some (.bx none cs0)=>aA (Et ba) cs0 cs
  | _=>False
 | .bx (some y) cs=>match lm k with
  | some (.bx (some y0) cs0)=>y0=y/\aA (Et ba) cs0 cs
  | _=>False
 | .row e t v o l=>match lm k with
  | some (.row e0 t0 v0 o0 l0)=>e0=e/\v0=v/\(⟨t0,l0⟩:sF)=⟨t,l⟩/\(o=true->o0=true/\t.flat=true)
  | _=>False
 | _=>False
def jJ (lm:Nat->Option ay) (ba:List Nat):Mm->Prop
 | []=>True
 | p :: M=>jT lm ba p.1 p.2/\jJ lm ba M
def mP (B B':ay):Prop :=
 match B,B' with
 | .bx none _,.bx none _=>True
 | .bx (some y) _,.bx (some y') _=>y'=y
 | .row _ _ v _ _,.row _ t v' o _=>v < v'/\(o=true->t.flat=true)
 | _,_=>False
def Ce:Mm->Mm->Prop
 | [],[]=>True
 | p :: M,q :: M'=>p.1=q.1/\mP p.2 q.2/\Ce M M'
 | _,_=>False
def U4 (g:List ((Int × Int × Int) × Bool)) (o:Obj):Prop:=∃(es:Array MapEntry) (ck:Nat),o=Obj.map es ck/\Xu es g
def adh (P:Program) (f:FuncId) (args:List aL) (t:Ty) (x:t.den):Prop :=
 (∀vs w,(callFunc f vs).run P w=.ok (.enter f vs) w) ∧
 ∀(w:World) (vs:List Value) (S:Nat->Prop),Gw P w->aA (fun v d=>∃fp,bV w v d fp/\∀b ∈ fp,S b) vs args →
  Calls P f vs.toArray w fun en w'=>Below w.heap.size w w'/\∃(b m:Nat) (e:TypeId) (us:List Value) (fp:List Nat),en=.returned (.pointer (some ⟨b,0,none⟩))/\w.heap.size<=b/\w.heap.size<=m/\b ≠ m ∧
   w'.heap[b]? = some (.cells (us++[Value.map (some m)]).toArray e (0,0))/\(∃o,w'.heap[m]? = some o/\U4 [] o)/\t.rp.rep w' us x fp/\∀y ∈ fp,(S y\/w.heap.size<=y)/\y ≠ b/\y ≠ m
def wP (lm:Nat->Option ay) (d:aL):AV->Prop
 | .mX k ver (n+1)=>match lm k with
  | some (.ob none v (.je _ t l))=>v=ver/\t.flat=true/\n+1<=l.length/\d=⟨.slice t,l.take (n+1)⟩
  | _=>False
 | v=>dw (kJ lm) d v
def Fc:AV->List Nat
 | .mX k _ _=>[k]
 | v=>v.rows
def jV (lm:Nat->Option ay) (k:Nat):List Nat:=match lm k with
 | some (.bx _ cs)=>k :: bc cs
 | _=>[k]
def ku (lm:Nat->Option ay):AV->List Nat
 | .ptr k _=>jV lm k
 | _=>[]
def dI (lm:Nat->Option ay) (k:Nat):List Nat:=match lm k with
 | some (.bx _ cs)=>k :: (bc cs++cs.flatMap (ku lm))
 | _=>[k]
def Av (lm:Nat->Option ay) (kc b:Nat) (m:Option Nat):List AV->Prop
 | [.sc v]=>v=.map m
 | [.row k ver]=>k=kc/\m=some b/\(match lm kc with|some (.ob _ v (.map _))=>v=ver|_=>False)
 | _=>False
def TR (lm:Nat->Option ay) (kc b:Nat) (p k:Nat):Prop:=p=b/\k=kc/\(match lm kc with|some (.bx ..)=>True|_=>False)
def nW (lm:Nat->Option ay):Nat->Option ay:=fun k=>match lm k with
 | some (.cU t l)=>some (.cU t l)
 | some (.jH t v l)=>some (.jH t v l)
 | _=>none
def jt (lm:Nat->Option ay) (kc b:Nat):(t:Ty)->t.den->List AV->Prop
 | .dr (.mp m),_,cs=>Av lm kc b m cs
 | .prod a d,x,cs=>jt lm kc b a x.1 (cs.take a.size)/\jt lm kc b d x.2 (cs.drop a.size)
 | .ext .sS _,some _,cs=>cs.length=1
 | t,x,cs=>Is (nW lm) t x cs
def AG (lm:Nat->Option ay) (kc b:Nat):(t:Ty)->t.den->List AV->Prop
 | .prod a d,x,cs=>AG lm kc b a x.1 (cs.take a.size)/\AG lm kc b d x.2 (cs.drop a.size)
 | .ext .ref t,some y,[.ptr k 0]=>k ≠ kc/\(match lm k with|some (.bx _ cs)=>jt lm kc b t y cs|_=>False)
 | t,x,cs=>jt lm kc b t x cs
def xX (lm:Nat->Option ay) (kc b:Nat) (k:Nat):(t:Ty)->t.den->Prop
 | .ext .ref t,some x=>k ≠ kc/\(match lm k with|some (.bx _ cs)=>AG lm kc b t x cs|_=>False)
 | .dr (.ptr p),_=>TR lm kc b p k
 | _,_=>False
def Ei (lm:Nat->Option ay) (kc b:Nat):(A:Ty)->A.den->List Nat->Prop
 | .prod A B,x,ks=>Ei lm kc b A x.1 (ks.take A.size)/\Ei lm kc b B x.2 (ks.drop A.size)
 | t,x,[k]=>xX lm kc b k t x
 | _,_,_=>False
def Hw (lm:Nat->Option ay) (kc b:Nat):(t:Ty)->t.den->FuncId->List Nat->Prop
 | .ext (.ie g) A,some x,f,ks=>g=f/\Ei lm kc b A x ks
 | _,_,_,_=>False
def zH (lm:Nat->Option ay) (kc b:Nat) (d:aL):AV->Prop
 | .ptr k 0=>xX lm kc b k d.1 d.2
 | .iQ f ks=>Hw lm kc b d.1 d.2 f ks
 | .agg cs=>d.1.isAgg=true/\jt lm kc b d.1 d.2 cs
 | v=>dw (nW lm) d v
def rM (lm:Nat->Option ay) (kc b:Nat):Prop:=match lm kc with
 | some (.ob (some v) _ d)=>lJ d v=some b
 | some (.bx (some b') _)=>b'=b
 | _=>True
def CP (lm:Nat->Option ay):AV->List Nat
 | .ptr k 0=>dI lm k
 | .iQ _ ks=>ks.flatMap (dI lm)
 | v=>v.rows
def v7:List aL->AV
 | [d]=>av d.1 d.2
 | ds=>.dY (ds.map fun d=>av d.1 d.2)
def RP (lm:Nat->Option ay):(t:Ty)->t.den->List AV->Prop
 | .int,n,cs=>cs=[.sc (.int .i64 n)]
 | .bool,b,cs=>cs=[.sc (.bool b)]
 | .str,s,cs=>cs=[.sc (.string s)]
 | .u8,n,cs=>cs=[.sc (.int .u8 n)]
 | .dr f,_,cs=>cs=[.sc (f.val)]
 | .slice a,l,cs=>∃k,cs=[.row k 0]/\lm k=some (.cu a l)
 | .ext _ _,_,_=>False
 | .prod a b,x,cs=>RP lm a x.1 (cs.take a.size)/\RP lm b x.2 (cs.drop a.size)
def aa9 (a:Ty) (l:List a.den):List AV->Mm
 | [.row k _]=>[(k,.cu a l)]
 | _=>[]
def PF:(t:Ty)->t.den->List AV->Mm
 | .slice a,l,cs=>aa9 a l cs
 | .prod a b,x,cs=>PF b x.2 (cs.drop a.size)++PF a x.1 (cs.take a.size)
 | _,_,_=>[]
def MkV (lm:Nat->Option ay) (t:Ty) (x:t.den):AV->Prop
 | .agg cs=>t.isAgg=true/\RP lm t x cs/\(bc cs).Nodup
 | v=>t.isAgg=false/\RP lm t x [v]
def pC (own:Bool):List aL->Bool
 | [d]=>own || d.1.flat
 | _=>false
def fT (rows:List Nat) (own:Bool) (res:List aL):bb :=
 match res with
 | [d]=>if own then ⟨jI nx d,(aN nx d.1 d.2).2,rows⟩ else if d.1.flat then ⟨av d.1 d.2,[],rows⟩ else ⟨av d.1 d.2,aJ lm rows,rows⟩
 | ds=>⟨.dY (ds.map fun d=>av d.1 d.2),aJ lm rows,rows⟩
def ia:List Operand->Option (List AV)
 | []=>some []
 | x :: xs=>match ev lt x,ia xs with
  | some v,some vs=>some (v :: vs)
  | _,_=>none
def lB (rows:List Nat) (apart:Bool):Nat->Option ay:=if apart then lm else fun j=>(look (aJ lm rows) j).or (lm j)
def VY (f:FuncId) (vs:List AV):Prop:=∃(args:List aL) (own:Bool) (res:List aL),Fn P f args own res/\aA (fun v d=>dw (lB lm (vs.flatMap AV.rows) (pC own res)) d v) vs args/\K (fT lm nx (vs.flatMap AV.rows) own res)
def WX (f:FuncId) (vs:List AV):Prop:=∃(args:List aL) (own:Bool) (d:aL),Fn P f args own [d]/\(own && d.1.plain || d.1.flat)=true/\aA (fun v d=>dw (kJ lm) d v) vs args/\K (AS nx (vs.flatMap AV.rows) own d)
def Xg (f:FuncId) (vs:List AV):Prop:=False/\( ∃(t:Ty) (x x':t.den) (k r:Int) (v:AV),FnM P f t x x' k r/\vs=[v,.sc (.int .i64 k)]/\MkV lm t x v/\K ⟨.sc (.int .i64 r),PF t x' (cellsOf v),v.rows⟩)
def Wz (f:FuncId) (vs:List AV):Prop:=∃(args:List aL) (i:Nat) (v:AV),LW P f args i/\aA (fun v d=>dw (kJ lm) d v) vs args/\vs[i]? = some v/\K ⟨v,[],vs.flatMap AV.rows⟩
def WN (f:FuncId) (vs:List AV):Prop:=∃(args:List aL) (d:aL) (ds:List aL),FnT P f args (d :: ds)/\(d.1.plain && ds.all fun d=>d.1.flat)=true/\aA (fun v d=>dw (kJ lm) d v) vs args/\K ⟨.dY (jI nx d :: ds.map fun d=>av d.1 d.2),dF (aN nx d.1 d.2).2,vs.flatMap AV.rows⟩
def WI (f:FuncId) (vs:List AV):Prop:=∃(args:List aL) (e:TypeId) (t:Ty) (l:List t.den),xt P f args e t l/\aA (fun v d=>dw (kJ lm) d v) vs args/\K ⟨.row nx 0,[(nx,.row e t 0 true l)],vs.flatMap AV.rows⟩
def WW (f:FuncId) (vs:List AV):Prop:=∃(xs:List lC) (e:TypeId) (t:Ty) (l l':List t.den) (ret:Bool) (k ver:Nat) (o:Bool),kl P f xs e t l l' ret/\vs=.row k ver :: xs.map (fun c=>.sc c.val)/\lm k=some (.row e t ver o l)/\K ⟨if ret then .row k (ver+1) else .dY [],[(k,.row e t (if ret then ver+1 else ver) t.flat l')],[k]⟩
def SU:AV->Option sF
 | .sl t l=>some ⟨t,l⟩
 | .fx _ t l=>some ⟨t,l⟩
 | _=>none
def A4 (rows:List Nat) (k:Nat) (xo:Option Nat) (hd:AV) (zs':List Value) (own mn:Bool) (d:aL):bb :=
 ⟨if own then jI nx d else av d.1 d.2,(if own then if mn then dF (aN nx d.1 d.2).2 else (aN nx d.1 d.2).2 else [])++(k,.bx xo (hd :: zs'.map fun z=>.sc z)) :: aJ lm rows,k :: rows⟩
def He (t:Ty) (l:List t.den) (zs zs':List Value) (args:List aL) (own:Bool) (d:aL) (mn:Bool) (k:Nat) (vs:List AV):Prop :=
 (own && d.1.plain || d.1.flat)=true/\aA (fun v d=>dw (lB lm (vs.flatMap AV.rows) false) d v) vs args ∧
 match lm k with
 | some (.bx xo (hd :: cs))=>SU hd=some ⟨t,l⟩/\cs=zs.map (fun z=>.sc z)/\K (A4 lm nx (vs.flatMap AV.rows) k xo hd zs' (own && !d.1.flat) mn d)
 | _=>False
def WO (f:FuncId) (vs:List AV):Prop:=∃(t:Ty) (l:List t.den) (zs zs':List Value) (args:List aL) (own:Bool) (d:aL) (mn:Bool) (k:Nat) (vs':List AV),Xs P f t l zs zs' args own d/\vs=.ptr k 0 :: vs'/\He lm nx K t l zs zs' args own d mn k vs'
def V8 (f:FuncId) (vs:List AV):Prop:=∃(t:Ty) (l:List t.den) (zs:List Value) (args:List aL) (v:AV) (vs':List AV),Qz P f t l zs args/\vs=v :: vs'/\SU v=some ⟨t,l⟩/\aA (fun v d=>dw (lB lm (vs'.flatMap AV.rows) false) d v) vs' args/\K ⟨.ptr nx 0,(nx,.box (v :: zs.map fun z=>.sc z)) :: aJ lm (vs'.flatMap AV.rows),vs'.flatMap AV.rows⟩
def WH (f:FuncId) (vs:List AV):Prop:=∃(args:List aL) (d:aL),Fn P f args false [d]/\aA (fun v d=>dw (nW lm) d v) vs args/\K ⟨av d.1 d.2,[],vs.flatMap AV.rows⟩
def V6 (f:FuncId) (vs:List AV):Prop:=∃(args:Nat->List aL) (res:List aL) (kc:Nat),(∀b,Fn P f (args b) false res)/\(res.all fun d=>d.1.flat)=true/\(∀b,rM lm kc b->aA (fun v d=>zH lm kc b d v) vs (args b))/\K ⟨v7 res,[],kc :: vs.flatMap (CP lm)⟩
def W5 (f:FuncId) (vs:List AV):Prop:=False/\( ∃(args:Nat->List aL) (res:List aL) (kc:Nat) (g g':List ((Int × Int × Int) × Bool)),FnW P f args (U4 g) (U4 g') res/\(∀b,rM lm kc b->aA (fun v d=>zH lm kc b d v) vs (args b)) ∧
 match lm kc with
 | some (.ob xo v (.map g0))=>g0=g/\K ⟨v7 res,[(kc,.ob xo v (.map g'))],kc :: vs.flatMap (CP lm)⟩
 | _=>False)
def OD (f:FuncId) (vs:List AV):Prop:=False/\( ∃(args:Nat->List aL) (res:List aL) (kc:Nat) (zs zs':List Value),FnW P f args (Ou zs) (Ou zs') res/\(∀z ∈ zs',z.oneCell'=true/\jO z)/\(∀b,rM lm kc b->aA (fun v d=>zH lm kc b d v) vs (args b)) ∧
 match lm kc with
 | some (.bx xo cs)=>cs=zs.map (fun z=>.sc z)/\K ⟨v7 res,[(kc,.bx xo (zs'.map fun z=>.sc z))],kc :: vs.flatMap (CP lm)⟩
 | _=>False)
def Rb (f:FuncId) (vs:List AV):Prop:=False/\( ∃(args:List aL) (t:Ty) (x:t.den),adh P f args t x/\aA (fun v d=>dw (lB lm (vs.flatMap AV.rows) false) d v) vs args/\K ⟨.ptr nx 0,(nx,.box (js t x++[.row (nx+1) 0])) :: (nx+1,.ob none 0 (.map [])) :: aJ lm (vs.flatMap AV.rows),vs.flatMap AV.rows⟩)
def Qa (f:FuncId) (vs:List AV):Prop:=False/\( ∃(args:List aL) (d:aL) (ds:List aL),FnT P f args (d :: ds)/\(ds.all fun d=>d.1.flat)=true/\aA (fun v d=>dw (kJ lm) d v) vs args/\K ⟨.dY (jI nx d :: ds.map fun d=>av d.1 d.2),(aN nx d.1 d.2).2,vs.flatMap AV.rows⟩)
def jw (f:FuncId) (vs:List AV):Prop:=∃(vs0:List AV) (M M':Mm) (v:AV),n0 P f vs0 M v M'/\Ce M M'/\aA (AQ (lB lm (kC (M.map (·.1)) (vs.flatMap AV.rows)) false) (M.map (·.1))) vs vs0/\jJ lm (M.map (·.1)) M/\K ⟨v,M'++aJ lm (kC (M.map (·.1)) (vs.flatMap AV.rows)),M.map (·.1)++kC (M.map (·.1)) (vs.flatMap AV.rows)⟩
def Wm (f:FuncId) (vs:List AV):Prop:=∃(args:List aL) (d:aL),Fn P f args true [d]/\aA (fun v d=>wP lm d v) vs args/\K ⟨jI nx d,(aN nx d.1 d.2).2,vs.flatMap Fc⟩
def Wh (f:FuncId) (vs:List AV):Prop:=∃(args:List aL) (e:TypeId) (t:Ty) (l:List t.den),WY P f args e t l/\aA (fun v d=>dw (lB lm (vs.flatMap AV.rows) false) d v) vs args/\K ⟨.row nx 0,(nx,.row e t 0 false l) :: aJ lm (vs.flatMap AV.rows),vs.flatMap AV.rows⟩
def aO (f:FuncId) (vs:List AV):Prop:=VY P lm nx K f vs\/WX P lm nx K f vs\/Xg P lm K f vs\/Wz P lm K f vs\/WN P lm nx K f vs\/WI P lm nx K f vs\/WW P lm K f vs\/WO P lm nx K f vs\/V8 P lm nx K f vs\/WH P lm K f vs\/V6 P lm K f vs\/W5 P lm K f vs\/OD P lm K f vs\/Rb P lm nx K f vs\/Qa P lm nx K f vs\/jw P lm K f vs\/Wh P lm nx K f vs\/Wm P lm nx K f vs
def GK (fop:Operand) (xs:Array Operand):Prop :=
 match ev lt fop,ia lt xs.toList with
 | some (.sc (.func (.func f) fi ca)),some vs =>
  fi=#[]/\ca=#[]/\vs.all AV.ok=true/\aO P lm nx K f vs
 | _,_=>False
end
section
variable {P:Program} {T:TypeId->Option Ty} {c:Cx} {lt:Nat->Option AV} {lm:Nat->Option ay} {nx:Nat} {K:bb->Prop} {o:Oper}
theorem RB (hT:bD P T) {s:TypeId} {x:Operand} {f:Nat} (ho:o.op=.field s x f) (h:Ca P T lt K s x f):∃e,K e/\aT P c lt lm nx o e:=by
 unfold Ca at h
 split at h
 ·rename_i fs hu
  split at h
  ·rename_i fd hf
   split at h
   ·rename_i t cs ht hx
    obtain⟨hl0,hK⟩:=h
    refine⟨_,hK,aT.pure fun σ Γ a w hs hl _=>?_⟩
    obtain⟨us,hp,hc⟩:=(aX hs hl (by simp[ho,Op.operands]) hx:aR c σ.mem Γ w _ (a.eval x))
    have hg:=oB hc hl0
    refine⟨_,?_,b8 hg⟩
    simp only[execOp,ho,hp,Instr.field,asAgg,part,Sem.run_bind,run_underlying hu,Result.andThen_ok,hf,Sem.run_pure,(hT _ _ ht).agg]
    cases ha:t.isAgg with
    | true =>
     simp only[if_true,Sem.run_bind,(hT _ _ ht).sizeOf,Result.andThen_ok,Sem.run_pure]
     simp[List.extract_eq_take_drop]
    | false =>
     have:=t.pos; rw[t.bW] at this
     have hlen:=hc.len
     simp only[false_eq_true,if_false]
     rw[List.getElem?_toArray,getD_eq_getElem?_getD,getElem?_eq_getElem J]
     rfl
   ·exact h.elim
  ·exact h.elim
 ·exact h.elim
theorem iW {n:Int} (h:bU n):IntKind.i64.wrap n=n:=IntWalk.i64_in n h
theorem NH {a b:Int} (ha:bU a) (h0:0<=a) (h1:0 < b):bU (a / b):=by
 have h2:=Int.ediv_nonneg h0 (Int.le_of_lt h1)
 have h3:=Int.ediv_le_self b h0
 obtain⟨_,h5⟩:=ha
 constructor<;>omega
theorem Zo {a b:Int} (hb:bU b) (h1:0 < b):bU (a % b):=by
 have h2:=Int.emod_nonneg a (by omega:b ≠ 0)
 have h3:=Int.emod_lt_of_pos a h1
 obtain⟨_,h5⟩:=hb
 constructor<;>omega
theorem wrap_u8 {n:Int} (h1:0<=n) (h2:n<=255):IntKind.wrap .u8 n=n:=IntWalk.u8_in n ⟨h1,h2⟩
theorem vA (w:World) {s d:TypeId} {k k':IntKind} {n:Int} (hs:(P.underlying s).isSome=true) (hd:P.underlying d=some (.int k')):(convert s d (.int k n)).run P w=.ok (.int k' (k'.wrap n)) w:=by
 obtain⟨e,hd'⟩:=Option.isSome_iff_exists.mp hs
 simp[convert,run_underlying hd',run_underlying hd,Conv.intToInt]
theorem P4 {d:Option TypeDesc} (h:WJ d=true):d=some (.int .i64):=by
 unfold WJ at h
 split at h
 ·rfl
 ·cases h
theorem MN {ty:TypeId} (h:uW P ty=true):P.eqGuardType P.depth ty=false:=by
 unfold uW at h
 rw[Bool.and_eq_true,Bool.and_eq_true] at h
 simpa using h.2.2
theorem R7 {ty:TypeId} (h:uW P ty=true) (n:Nat) (w:World) (a b c d:Int):(Op.equalIn (n+1+1) ty (.agg #[.int .i64 a,.int .i64 b]) (.agg #[.int .i64 c,.int .i64 d])).run P w=.ok (decide (a=c) && decide (b=d)) w:=by
 unfold uW at h
 rw[Bool.and_eq_true,Bool.and_eq_true] at h
 obtain⟨h,hp,_⟩:=h
 have hp:P.stoodInHeld ty=false:=by simpa using hp
 split at h
 ·rename_i fs hu
  split at h
  ·rename_i f g hfs
   simp only[Bool.and_eq_true,bne_iff_ne,beq_iff_eq] at h
   obtain⟨⟨h1,h2⟩,⟨h3,h4⟩,h5,h6⟩:=h
   have h5:=P4 h5
   have h6:=P4 h6
   have hfo:P.fieldsOf ty=fs:=by simp[Program.fieldsOf,hu]
   rw[run_equalIn_agg w _ ty _ _ (by rw[hfo]; exact hu) hp,hfo,hfs]
   have ag:∀{t:TypeId} (w:World),P.underlying t=some (.int .i64)->(isAgg t).run P w=.ok false w:=fun w ht=>by simp[isAgg,run_underlying ht]
   have a5:∀w,(isAgg f.type).run P w=.ok false w:=fun w=>ag w h5
   have a6:∀w,(isAgg g.type).run P w=.ok false w:=fun w=>ag w h6
   have q5:∀(d:Nat) (x y:Int) w,(Op.equalIn (d+1) f.type (.int .i64 x) (.int .i64 y)).run P w=.ok (x == y) w:=fun d x y w=>run_equalIn_int w d _ _ _ _ _ h5
   have q6:∀(d:Nat) (x y:Int) w,(Op.equalIn (d+1) g.type (.int .i64 x) (.int .i64 y)).run P w=.ok (x == y) w:=fun d x y w=>run_equalIn_int w d _ _ _ _ _ h6
   by_cases e1:a=c<;>by_cases e2:b=d<;>simp[Op.eqFields,part,h1,h2,h3,h4,a5,a6,q5,q6,e1,e2]
  ·cases h
 ·cases h
theorem B4 {ty:TypeId} (h:uW P ty=true) (w:World) (a b c d:Int):(Op.equalIn 10000 ty (.agg #[.int .i64 a,.int .i64 b]) (.agg #[.int .i64 c,.int .i64 d])).run P w=.ok (decide (a=c) && decide (b=d)) w:=R7 h 9998 w a b c d
theorem N0 {M:Mm} {Γ:aC} {w:World} {a b:Int} {u:Value} (h:aR c M Γ w (.agg [.sc (.int .i64 a),.sc (.int .i64 b)]) u):u=.agg #[.int .i64 a,.int .i64 b]:=by
 obtain⟨us,rfl,hc⟩:=h
 match us,hc with
 | [x,y],⟨h1,h2,_⟩ =>
  have e1:x=.int .i64 a:=h1.1
  have e2:y=.int .i64 b:=h2.1
  rw[e1,e2]
theorem Nx {M:Mm} {Γ:aC} {w:World} {a b a2 b2:Int} {u:Value} (h:aR c M Γ w (.agg [.sc (.int .i64 a),.sc (.int .i64 b),.sc (.int .i64 a2),.sc (.int .i64 b2)]) u):u=.agg #[.int .i64 a,.int .i64 b,.int .i64 a2,.int .i64 b2]:=by
 obtain⟨us,rfl,hc⟩:=h
 match us,hc with
 | [x,y,z,t],⟨h1,h2,h3,h4,_⟩ =>
  have e1:x=.int .i64 a:=h1.1
  have e2:y=.int .i64 b:=h2.1
  have e3:z=.int .i64 a2:=h3.1
  have e4:t=.int .i64 b2:=h4.1
  rw[e1,e2,e3,e4]
theorem tU (n:Int):bU (IntKind.i64.wrap n):=by rw[IntKind.wrap_i64]; constructor<;>omega
theorem Ub {a:Int} (h:bU a) (n:Nat):bU (a.fdiv (2 ^ n)):=by
 have hp:(0:Int) < 2 ^ n:=Int.pow_pos ae
 rw[Int.fdiv_eq_ediv_of_nonneg _ (Int.le_of_lt hp)]
 obtain⟨h1,h2⟩:=h
 have h3:(1:Int)<=2 ^ n:=hp
 constructor
 ·rw[Int.le_ediv_iff_mul_le hp]
  have:(-9223372036854775808:Int) * 2 ^ n<=-9223372036854775808 * 1:=Int.mul_le_mul_of_nonpos_left ae h3
  omega
 ·rw[<-Int.lt_add_one_iff,Int.ediv_lt_iff_lt_mul hp]
  have:(9223372036854775807+1:Int) * 1<=(9223372036854775807+1) * 2 ^ n:=Int.mul_le_mul_of_nonneg_left h3 ae
  omega
theorem VG {op:BinOp} {ty ty2:TypeId} {x y:Operand} (ho:o.op=.binOp op ty x y ty2) (h:BL lt K op x y):∃e,K e/\aT P c lt lm nx o e:=by
 unfold BL at h
 split at h
 ·rename_i a b hx hy
  have key:∀(u:Value),u.oneCell'=true/\jO u->(∀w,(Go.binOp op ty (.int .i64 a) (.int .i64 b)).run P w=.ok u w)->(∀w,(eqGuard op ty x y (.int .i64 a) (.int .i64 b)).run P w=.ok () w)->aT P c lt lm nx o (.val (.sc u)):=by
   intro u hu hrun hg
   refine aT.pure fun σ Γ ac w hs hl _=>?_
   obtain⟨e1,_,o1⟩:=(aX hs hl (by simp[ho,Op.operands]) hx:aR c σ.mem Γ w _ (ac.eval x))
   obtain⟨e2,_,o2⟩:=(aX hs hl (by simp[ho,Op.operands]) hy:aR c σ.mem Γ w _ (ac.eval y))
   refine⟨u,?_,rfl,hu⟩
   simp only[execOp,ho,e1,e2,Sem.run_bind,hg,Result.andThen_ok,hrun w,Sem.run_pure]
  cases op<;>simp only at h
  case add=>exact⟨_,h,key _ ⟨rfl,tU _⟩ (fun w=>by simp[Go.binOp,Op.intArith]) (fun w=>by simp[eqGuard])⟩
  case mul=>exact⟨_,h,key _ ⟨rfl,tU _⟩ (fun w=>by simp[Go.binOp,Op.intArith]) (fun w=>by simp[eqGuard])⟩
 ·exact h.elim
theorem YI {op:BinOp} {ty ty2:TypeId} {x y:Operand} (ho:o.op=.binOp op ty x y ty2) (h:Ji P T lt K op ty x y):∃e,K e/\aT P c lt lm nx o e:=by
 have h:BL lt K op x y\/yI P lt K op ty x y:=by
  unfold Ji G1 at h
  split at h
  ·split at h
   ·exact .inl h
   ·exact .inr h
  ·exact .inr h
 rcases h with h|h
 ·exact VG ho h
 unfold yI at h
 split at h
 ·rename_i a b hx hy
  have key:∀(u:Value),(bU a->bU b->u.oneCell'=true/\jO u)->(∀w,bU a->bU b->(Go.binOp op ty (.int .i64 a) (.int .i64 b)).run P w=.ok u w)->aT P c lt lm nx o (.val (.sc u)):=by
   intro u hu hrun
   refine aT.pure fun σ Γ ac w hs hl _=>?_
   obtain⟨e1,_,o1⟩:=(aX hs hl (by simp[ho,Op.operands]) hx:aR c σ.mem Γ w _ (ac.eval x))
   obtain⟨e2,_,o2⟩:=(aX hs hl (by simp[ho,Op.operands]) hy:aR c σ.mem Γ w _ (ac.eval y))
   have hg:(eqGuard op ty x y (.int .i64 a) (.int .i64 b)).run P w=.ok () w:=by
    unfold eqGuard
    cases op<;>simp
   refine⟨u,?_,rfl,hu o1 o2⟩
   simp only[execOp,ho,e1,e2,Sem.run_bind,hg,Result.andThen_ok,hrun w o1 o2,Sem.run_pure]
  cases op<;>simp only at h
  case add=>exact⟨_,h.2,key _ (fun _ _=>⟨rfl,h.1⟩) fun w _ _=>by simp[Go.binOp,Op.intArith,iW h.1]⟩
  case sub=>exact⟨_,h.2,key _ (fun _ _=>⟨rfl,h.1⟩) fun w _ _=>by simp[Go.binOp,Op.intArith,iW h.1]⟩
  case mul=>exact⟨_,h.2,key _ (fun _ _=>⟨rfl,h.1⟩) fun w _ _=>by simp[Go.binOp,Op.intArith,iW h.1]⟩
  case quo =>
   obtain⟨q,hq,hK⟩:=h
   rcases hq with ⟨h0,h1,rfl⟩|⟨h0,h1,rfl⟩
   ·have hb:b ≠ 0:=J
    have ht:a.tdiv b=a / b:=Int.tdiv_eq_ediv_of_nonneg h0
    exact⟨_,hK,key _ (fun ha _=>⟨rfl,NH ha h0 h1⟩) fun w ha _=>by simp[Go.binOp,Op.intDiv,hb,ht,iW (NH ha h0 h1)]⟩
   ·exact⟨_,hK,key _ (fun _ _=>⟨rfl,h1⟩) fun w _ _=>by simp[Go.binOp,Op.intDiv,iW h1,h0]⟩
  case rem =>
   obtain⟨q,hq,hK⟩:=h
   rcases hq with ⟨h0,h1,rfl⟩|⟨h0,h1,rfl⟩
   ·have hb:b ≠ 0:=J
    have ht:a.tmod b=a % b:=Int.tmod_eq_emod_of_nonneg h0
    exact⟨_,hK,key _ (fun _ hb=>⟨rfl,Zo hb h1⟩) fun w _ _=>by simp[Go.binOp,Op.intDiv,hb,ht]⟩
   ·exact⟨_,hK,key _ (fun _ _=>⟨rfl,h1⟩) fun w _ _=>by simp[Go.binOp,Op.intDiv,h0]⟩
  case lss=>exact⟨_,h,key _ (fun _ _=>⟨rfl,trivial⟩) fun w _ _=>by simp[Go.binOp,Op.intCmp]⟩
  case leq=>exact⟨_,h,key _ (fun _ _=>⟨rfl,trivial⟩) fun w _ _=>by simp[Go.binOp,Op.intCmp]⟩
  case gtr=>exact⟨_,h,key _ (fun _ _=>⟨rfl,trivial⟩) fun w _ _=>by simp[Go.binOp,Op.intCmp]⟩
  case geq=>exact⟨_,h,key _ (fun _ _=>⟨rfl,trivial⟩) fun w _ _=>by simp[Go.binOp,Op.intCmp]⟩
  case eql=>exact⟨_,h,key _ (fun _ _=>⟨rfl,trivial⟩) fun w _ _=>by simp[Go.binOp,Op.intCmp]; rfl⟩
  case neq=>exact⟨_,h,key _ (fun _ _=>⟨rfl,trivial⟩) fun w _ _=>by simp[Go.binOp,Op.intCmp]; rfl⟩
  case and=>exact⟨_,h,key _ (fun _ _=>⟨rfl,tU _⟩) fun w _ _=>by simp[Go.binOp,Op.intBits]; rfl⟩
  case xor=>exact⟨_,h,key _ (fun _ _=>⟨rfl,tU _⟩) fun w _ _=>by simp[Go.binOp,Op.intBits]; rfl⟩
 ·rename_i a b hx hy
  cases op<;>simp only at h
  obtain⟨h0,h1,hK⟩:=h
  refine⟨_,hK,aT.pure fun σ Γ ac w hs hl _=>?_⟩
  obtain⟨e1,_,o1⟩:=(aX hs hl (by simp[ho,Op.operands]) hx:aR c σ.mem Γ w _ (ac.eval x))
  obtain⟨e2,_,o2⟩:=(aX hs hl (by simp[ho,Op.operands]) hy:aR c σ.mem Γ w _ (ac.eval y))
  refine⟨.int .i64 (a.fdiv (2 ^ b.toNat)),?_,rfl,rfl,Ub o1 _⟩
  have hm:min b.toNat IntKind.i64.bits=b.toNat:=Nat.min_eq_left (by show b.toNat<=64; omega)
  have hb:¬ b < 0:=J
  have hf:a.fdiv (2 ^ b.toNat)=a / 2 ^ b.toNat:=Int.fdiv_eq_ediv_of_nonneg _ (Int.le_of_lt (Int.pow_pos ae))
  rw[hf]
  simp[execOp,ho,e1,e2,eqGuard,Go.binOp,Op.shift,hm,hb]
 ·rename_i a b hx hy
  obtain⟨ht,h⟩:=h
  have key:∀(u:Bool),(∀w,(Go.binOp op ty (.bool a) (.bool b)).run P w=.ok (.bool u) w)->aT P c lt lm nx o (.val (.sc (.bool u))):=by
   intro u hrun
   refine aT.pure fun σ Γ ac w hs hl _=>?_
   have e1:ac.eval x=_:=(aX hs hl (by simp[ho,Op.operands]) hx:aR c σ.mem Γ w _ (ac.eval x)).1
   have e2:ac.eval y=_:=(aX hs hl (by simp[ho,Op.operands]) hy:aR c σ.mem Γ w _ (ac.eval y)).1
   have hg:(eqGuard op ty x y (.bool a) (.bool b)).run P w=.ok () w:=by
    unfold eqGuard
    cases op<;>simp
   refine⟨.bool u,?_,rfl,rfl,trivial⟩
   simp only[execOp,ho,e1,e2,Sem.run_bind,hg,Result.andThen_ok,hrun w,Sem.run_pure]
  cases op<;>simp only at h
  case eql=>exact⟨_,h,key _ fun w=>run_eql_bool w ty a b ht⟩
  case neq=>exact⟨_,h,key _ fun w=>by simp only[Go.binOp,Sem.run_bind,run_equal_bool w ty a b ht,Result.andThen_ok,Sem.run_pure]⟩
 ·rename_i a b hx hy
  obtain⟨ht,h⟩:=h
  have key:∀(u:Value),u.oneCell'=true->jO u->(∀w,(Go.binOp op ty (.string a) (.string b)).run P w=.ok u w)->aT P c lt lm nx o (.val (.sc u)):=by
   intro u h1 h2 hrun
   refine aT.pure fun σ Γ ac w hs hl _=>?_
   have e1:ac.eval x=_:=(aX hs hl (by simp[ho,Op.operands]) hx:aR c σ.mem Γ w _ (ac.eval x)).1
   have e2:ac.eval y=_:=(aX hs hl (by simp[ho,Op.operands]) hy:aR c σ.mem Γ w _ (ac.eval y)).1
   have hg:(eqGuard op ty x y (.string a) (.string b)).run P w=.ok () w:=by
    unfold eqGuard
    cases op<;>simp
   refine⟨u,?_,rfl,h1,h2⟩
   simp only[execOp,ho,e1,e2,Sem.run_bind,hg,Result.andThen_ok,hrun w,Sem.run_pure]
  cases op<;>simp only at h
  case eql=>exact⟨_,h,key _ rfl trivial fun w=>by simp only[Go.binOp,Op.stringOp,Sem.run_pure]⟩
  case neq=>exact⟨_,h,key _ rfl trivial fun w=>by simp only[Go.binOp,Op.stringOp,Sem.run_pure]⟩
  case add=>exact⟨_,h.2,key _ rfl h.1 fun w=>by have hq:=h.1; simp only[maxLen,ByteArray.size_append] at hq; simp[Go.binOp,Op.stringOp]; omega⟩
 ·rename_i a b hx hy
  have key:∀(op:BinOp) (r:Nat),o.op=.binOp op ty x y ty2->(op=.add\/op=.sub\/op=.mul\/op=.quo)->floatBits op .f64 a b=some r->aT P c lt lm nx o (.val (.sc (.float .f64 r))):=by
   intro op r ho hop hr
   refine aT.pure fun σ Γ ac w hs hl _=>?_
   have e1:ac.eval x=_:=(aX hs hl (by simp[ho,Op.operands]) hx:aR c σ.mem Γ w _ (ac.eval x)).1
   have e2:ac.eval y=_:=(aX hs hl (by simp[ho,Op.operands]) hy:aR c σ.mem Γ w _ (ac.eval y)).1
   have hg:(eqGuard op ty x y (.float .f64 a) (.float .f64 b)).run P w=.ok () w:=by
    unfold eqGuard
    rcases hop with rfl|rfl|rfl|rfl<;>simp
   refine⟨.float .f64 r,?_,rfl,rfl,trivial⟩
   simp only[execOp,ho,e1,e2,Sem.run_bind,hg,Result.andThen_ok,run_float_arith w op ty .f64 a b r hr,Sem.run_pure]
  cases op<;>simp only at h
  all_goals first
   | (obtain⟨r,hr,hK⟩:=h; exact⟨_,hK,key _ r ho ah hr⟩)
   | exact h.elim
 ·rename_i a b hx hy
  have key:∀(u:Value),(0<=a/\a<=255->0<=b/\b<=255->u.oneCell'=true/\jO u)->(∀w,(0<=a/\a<=255)->(0<=b/\b<=255)->(Go.binOp op ty (.int .u8 a) (.int .u8 b)).run P w=.ok u w)->aT P c lt lm nx o (.val (.sc u)):=by
   intro u hu hrun
   refine aT.pure fun σ Γ ac w hs hl _=>?_
   obtain⟨e1,_,o1⟩:=(aX hs hl (by simp[ho,Op.operands]) hx:aR c σ.mem Γ w _ (ac.eval x))
   obtain⟨e2,_,o2⟩:=(aX hs hl (by simp[ho,Op.operands]) hy:aR c σ.mem Γ w _ (ac.eval y))
   have hg:(eqGuard op ty x y (.int .u8 a) (.int .u8 b)).run P w=.ok () w:=by
    unfold eqGuard
    cases op<;>simp
   refine⟨u,?_,rfl,hu o1 o2⟩
   simp only[execOp,ho,e1,e2,Sem.run_bind,hg,Result.andThen_ok,hrun w o1 o2,Sem.run_pure]
  cases op<;>simp only at h
  case sub=>exact⟨_,h.2.2,key _ (fun _ _=>⟨rfl,h.1,h.2.1⟩) fun w _ _=>by simp[Go.binOp,Op.intArith]; rw[wrap_u8 h.1 h.2.1]⟩
  case lss=>exact⟨_,h,key _ (fun _ _=>⟨rfl,trivial⟩) fun w _ _=>by simp[Go.binOp,Op.intCmp]⟩
  case leq=>exact⟨_,h,key _ (fun _ _=>⟨rfl,trivial⟩) fun w _ _=>by simp[Go.binOp,Op.intCmp]⟩
  case gtr=>exact⟨_,h,key _ (fun _ _=>⟨rfl,trivial⟩) fun w _ _=>by simp[Go.binOp,Op.intCmp]⟩
  case geq=>exact⟨_,h,key _ (fun _ _=>⟨rfl,trivial⟩) fun w _ _=>by simp[Go.binOp,Op.intCmp]⟩
  case eql=>exact⟨_,h,key _ (fun _ _=>⟨rfl,trivial⟩) fun w _ _=>by simp[Go.binOp,Op.intCmp]; rfl⟩
  case neq=>exact⟨_,h,key _ (fun _ _=>⟨rfl,trivial⟩) fun w _ _=>by simp[Go.binOp,Op.intCmp]; rfl⟩
 ·rename_i a b c' d hx hy
  obtain⟨ht,h⟩:=h
  have key:∀(u:Bool),(∀w,(Go.binOp op ty (.agg #[.int .i64 a,.int .i64 b]) (.agg #[.int .i64 c',.int .i64 d])).run P w=.ok (.bool u) w)->aT P c lt lm nx o (.val (.sc (.bool u))):=by
   intro u hrun
   refine aT.pure fun σ Γ ac w hs hl _=>?_
   have e1:=N0 (aX hs hl (by simp[ho,Op.operands]) hx:aR c σ.mem Γ w _ (ac.eval x))
   have e2:=N0 (aX hs hl (by simp[ho,Op.operands]) hy:aR c σ.mem Γ w _ (ac.eval y))
   have hg:=run_eqGuard_agg (P:=P) w op ty x y #[.int .i64 a,.int .i64 b] #[.int .i64 c',.int .i64 d] (MN ht)
   refine⟨.bool u,?_,rfl,rfl,trivial⟩
   simp only[execOp,ho,e1,e2,Sem.run_bind,hg,Result.andThen_ok,hrun w,Sem.run_pure]
  cases op<;>simp only at h
  case eql=>exact⟨_,h,key _ fun w=>by rw[run_eql_struct,B4 ht]; rfl⟩
  case neq=>exact⟨_,h,key _ fun w=>by rw[run_neq_struct,B4 ht]; rfl⟩
 ·rename_i a b a2 b2 c' d c2 d2 hx hy
  obtain⟨ht,h⟩:=h
  have key:∀(u:Bool),(∀w,(Go.binOp op ty (.agg #[.int .i64 a,.int .i64 b,.int .i64 a2,.int .i64 b2]) (.agg #[.int .i64 c',.int .i64 d,.int .i64 c2,.int .i64 d2])).run P w=.ok (.bool u) w)->aT P c lt lm nx o (.val (.sc (.bool u))):=by
   intro u hrun
   refine aT.pure fun σ Γ ac w hs hl _=>?_
   have e1:=Nx (aX hs hl (by simp[ho,Op.operands]) hx:aR c σ.mem Γ w _ (ac.eval x))
   have e2:=Nx (aX hs hl (by simp[ho,Op.operands]) hy:aR c σ.mem Γ w _ (ac.eval y))
   have hg:=run_eqGuard_agg (P:=P) w op ty x y #[.int .i64 a,.int .i64 b,.int .i64 a2,.int .i64 b2] #[.int .i64 c',.int .i64 d,.int .i64 c2,.int .i64 d2] ht.1
   refine⟨.bool u,?_,rfl,rfl,trivial⟩
   simp only[execOp,ho,e1,e2,Sem.run_bind,hg,Result.andThen_ok,hrun w,Sem.run_pure]
  cases op<;>simp only at h
  case eql=>exact⟨_,h,key _ fun w=>by rw[run_eql_struct,ht.2]; rfl⟩
  case neq=>exact⟨_,h,key _ fun w=>by rw[run_neq_struct,ht.2]; rfl⟩
 ·exact h.elim
theorem TL {s d:TypeId} {x:Operand} (ho:o.op=.convert s d x) (h:GQ P lt K s d x):∃e,K e/\aT P c lt lm nx o e:=by
 unfold GQ at h
 obtain⟨hs0,h⟩:=h
 have key:∀(v u:Value),ev lt x=some (.sc v)->(jO v->u.oneCell'=true/\jO u)->(∀w,jO v->(convert s d v).run P w=.ok u w)->aT P c lt lm nx o (.val (.sc u)):=by
  intro v u hx hu hrun
  refine aT.pure fun σ Γ ac w hs hl _=>?_
  obtain⟨e1,_,o1⟩:=(aX hs hl (by simp[ho,Op.operands]) hx:aR c σ.mem Γ w _ (ac.eval x))
  refine⟨u,?_,rfl,hu o1⟩
  simp only[execOp,ho,e1,Sem.run_bind,Result.andThen_ok,hrun w o1,Sem.run_pure]
 split at h
 ·rename_i n hd hx
  exact⟨_,h,key _ _ hx (fun _=>⟨rfl,trivial⟩) fun w _=>run_convert_int_float (w:=w) s d .i64 .f64 n hs0 hd⟩
 ·rename_i b hd hx
  obtain⟨n,hn,hI,hK⟩:=h
  exact⟨_,hK,key _ _ hx (fun _=>⟨rfl,hI⟩) fun w _=>run_convert_float_int w s d .f64 .i64 b n hs0 hd hn⟩
 ·rename_i n hd hx
  exact⟨_,h,key _ _ hx (fun h=>⟨rfl,h⟩) fun w h=>by rw[vA w hs0 hd,iW h]⟩
 ·rename_i n hd hx
  exact⟨_,h,key _ _ hx (fun h=>⟨rfl,by have h1:=h.1; have h2:=h.2; constructor<;>omega⟩) fun w h=>by rw[vA w hs0 hd,iW (by have h1:=h.1; have h2:=h.2; constructor<;>omega)]⟩
 ·rename_i n hd hx
  exact⟨_,h.2.2,key _ _ hx (fun _=>⟨rfl,h.1,h.2.1⟩) fun w _=>by rw[vA w hs0 hd,wrap_u8 h.1 h.2.1]⟩
 ·rename_i n hd hx
  exact⟨_,h,key _ _ hx (fun h=>⟨rfl,h⟩) fun w h=>by rw[vA w hs0 hd,wrap_u8 h.1 h.2]⟩
 ·exact h.elim
theorem Zr {op:UnOp} {ty:TypeId} {x:Operand} (ho:o.op=.unOp op ty x) (h:Wo lt K op x):∃e,K e/\aT P c lt lm nx o e:=by
 unfold Wo at h
 split at h
 ·rename_i b hx
  refine⟨_,h,aT.pure fun σ Γ ac w hs hl _=>⟨.bool !b,?_,rfl,rfl,trivial⟩⟩
  have e1:ac.eval x=_:=(aX hs hl (by simp[ho,Op.operands]) hx:aR c σ.mem Γ w _ (ac.eval x)).1
  simp[execOp,ho,e1,Op.unary]
 ·rename_i n hx
  refine⟨_,h.2,aT.pure fun σ Γ ac w hs hl _=>⟨.int .i64 (-n),?_,rfl,rfl,h.1⟩⟩
  have e1:ac.eval x=_:=(aX hs hl (by simp[ho,Op.operands]) hx:aR c σ.mem Γ w _ (ac.eval x)).1
  have:=iW h.1
  simp[execOp,ho,e1,Op.unary,Op.intArith,this]
 ·exact h.elim
theorem K5 {x:Operand} {i:Nat} (ho:o.op=.extract x i) (h:vu lt K x i):∃e,K e/\aT P c lt lm nx o e:=by
 unfold vu at h
 split at h
 ·rename_i vs hx
  split at h
  ·rename_i v hv
   refine⟨_,h,aT.pure fun σ Γ ac w hs hl _=>?_⟩
   obtain⟨us,e1,hc⟩:=(aX hs hl (by simp[ho,Op.operands]) hx:aR c σ.mem Γ w _ (ac.eval x))
   obtain⟨u,hu,hr⟩:=hc.get hv
   refine⟨u,?_,b8 hr⟩
   simp[execOp,ho,e1,Instr.extract,hu]
  ·exact h.elim
 ·exact h.elim
theorem oU {t:Ty} {w:World} {u:Value} {l:List t.den} {fp:List Nat} (h:(Rp.slice t.rp t.pos).rep w [u] l fp):∃ad cc,u=.slice ad l.length cc/\l.length<=cc/\cc<=maxLen:=by
 obtain⟨ad,cc,h1,h2,h3,_⟩:=h
 injection h1 with h1
 exact⟨ad,cc,h1,h2,h3⟩
theorem tA {lm':Nat->Option ay} {v:AV} {d:sF} (h:∀k ∈ v.rows,lm' k=lm k) (hd:v.data lm=some d):v.data lm'=some d:=by
 rw[nD (lm:=lm) fun k ver e=>h k (by subst e; simp[AV.rows])]; exact hd
theorem tZ {M:Mm} {Γ:aC} {w:World} {v:AV} {u:Value} {d:sF} (h:aR c M Γ w v u) (hd:v.data lm=some d):aQ c M Γ w v u:=by
 cases v<;>first|exact h|cases hd
theorem AH {σ:St} {Γ:aC} {a:Act} {w:World} (hs:aH c σ Γ a w) {v:AV} {u:Value} {t:Ty} {l:List t.den} (hv:aR c σ.mem Γ w v u) (hm:∀k ∈ v.rows,look σ.mem k=lm k) (hd:v.data lm=some ⟨t,l⟩) :
  ∃fp,(Rp.slice t.rp t.pos).rep w [u] l fp/\(∀b ∈ fp,c.S b\/c.base<=b)/\((∀k ver,v=.row k ver->∀e t v o l,look σ.mem k ≠ some (.row e t v o l))->∀b ∈ fp,Gd c σ.mem Γ b) :=
 hs.rK (tZ hv hd) (tA hm hd)
theorem YU {x:Operand} {ty:TypeId} (ho:o.op=.call { callee:=.builtin .len,args:=#[x],argTypes:=#[ty] })
  (h:Pj P lt lm K ty x):∃e,K e/\aT P c lt lm nx o e:=by
 unfold Pj at h
 have hmem:x ∈ o.op.operands.toList:=by simp[ho,Op.operands,Call.operands]
 have key:∀(ac:Act) (w:World) (u:Value) (n:Int),ac.eval x=u->(Builtin.len_ #[ty] o.type #[u]).run P w=.ok (.int .i64 n) w->(execOp ac.eval o).run P w=.ok (.value (.int .i64 n)) w:=by
  intro ac w u n hu hr
  simp[execOp,ho,resolve,invoke,builtin,hu,hr,Result.andThen]
 have hsl:∀(w:World) (ad:Option Addr) (n cc:Nat),(∃e,P.underlying ty=some (.slice e))->(Builtin.len_ #[ty] o.type #[.slice ad n cc]).run P w=.ok (.int .i64 n) w:=by
  rintro w ad n cc ⟨e,he⟩
  simp[Builtin.len_,run_underlying he,goInt]
 have hst:∀(w:World) (s:ByteArray),P.underlying ty=some .string->(Builtin.len_ #[ty] o.type #[.string s]).run P w=.ok (.int .i64 s.size) w:=by
  intro w s he
  simp[Builtin.len_,run_underlying he,goInt]
 split at h
 ·rename_i s hx
  refine⟨_,h.2,aT.pure fun σ Γ ac w hs hl hm=>?_⟩
  obtain⟨e1,_,ok⟩:=(aX hs hl hmem hx:aR c σ.mem Γ w _ (ac.eval x))
  simp only[jO,maxLen] at ok
  exact⟨_,key ac w _ s.size e1 (hst w s h.1),rfl,rfl,by constructor<;>omega⟩
 ·rename_i hx
  refine⟨_,h.2,aT.pure fun σ Γ ac w hs hl hm=>?_⟩
  obtain⟨e1,_,ok⟩:=(aX hs hl hmem hx:aR c σ.mem Γ w _ (ac.eval x))
  exact⟨_,key ac w _ 0 e1 (hsl w none 0 0 (rf h.1)),rfl,rfl,by constructor<;>decide⟩
 ·rename_i v _ _ hx
  split at h
  ·rename_i t l hd
   refine⟨_,h.2,aT.pure fun σ Γ ac w hs hl hm=>?_⟩
   have hv:=aX hs hl (x:=x) hmem hx
   obtain⟨fp,hr,_,_⟩:=AH hs hv hm hd
   obtain⟨ad,cc,hva,h1,h2⟩:=oU hr
   simp only[maxLen] at h2
   exact⟨_,key ac w _ l.length hva (hsl w ad _ cc (rf h.1)),rfl,rfl,by constructor<;>omega⟩
  ·split at h
   ·rename_i k n _ _ hdn
    split at h
    ·rename_i t l hk
     obtain⟨rfl,h⟩:=h
     refine⟨_,h.2,aT.pure fun σ Γ ac w hs hl hm=>?_⟩
     obtain⟨_,B,hB,hh⟩:=(aX hs hl hmem hx:aR c σ.mem Γ w _ (ac.eval x))
     have hk':=(hm k ah).trans hk
     rw[hk'] at hB; injection hB with hB; subst hB
     obtain⟨hr,_⟩:=hs.mm k _ hk'
     rw[<-hh rfl] at hr
     obtain⟨ad,cc,hva,h1,h2⟩:=oU hr
     simp only[maxLen] at h2
     exact⟨_,key ac w _ l.length hva (hsl w ad _ cc (rf h.1)),rfl,rfl,by constructor<;>omega⟩
    ·rename_i xo cs hk
     refine⟨_,h.2,aT.pure fun σ Γ ac w hs hl hm=>?_⟩
     obtain⟨_,B,hB,hh⟩:=(aX hs hl hmem hx:aR c σ.mem Γ w _ (ac.eval x))
     have hk':=(hm k ah).trans hk
     rw[hk'] at hB; injection hB with hB; subst hB
     obtain⟨hva,h2⟩:=hh
     simp only[maxLen] at h2
     exact⟨_,key ac w _ n hva (hsl w _ _ _ (rf h.1)),rfl,rfl,by constructor<;>omega⟩
    ·exact h.elim
   ·exact h.elim
 ·exact h.elim
theorem Gv (hT:bD P T) {ty:TypeId} {x y:Operand} (ho:o.op=.indexAddr ty x y) (h:qv P T lt lm K ty x y):∃e,K e/\aT P c lt lm nx o e:=by
 unfold qv at h
 split at h
 ·rename_i e hu
  split at h
  ·rename_i t v z ht hx hy
   split at h
   ·rename_i s l hd
    obtain⟨hsz,h0,hz,hK⟩:=h
    refine⟨_,hK,aT.pure fun σ Γ ac w hs hl hm=>?_⟩
    have hv:=aX hs hl (x:=x) (by simp[ho,Op.operands]) hx
    have e2:ac.eval y=_:=(aX hs hl (by simp[ho,Op.operands]) hy:aR c σ.mem Γ w _ (ac.eval y)).1
    obtain⟨fp,hr,_,hgd⟩:=AH hs hv hm hd
    have hlt:z.toNat < l.length:=J
    obtain⟨ad,cc,hva,hlc,_⟩:=oU hr
    have hrun:∀b off,ad=some ⟨b,off,none⟩->(execOp ac.eval o).run P w=.ok (.value (.pointer (some ⟨b,off+z.toNat * s.size,none⟩))) w:=by
     rintro b off rfl
     have hsz2:=(hT e t ht).sizeOf w
     simp only[execOp,ho,hva,e2,Instr.indexAt,asIntOf,Sem.run_bind,Sem.run_pure,Result.andThen_ok,run_underlying hu,hsz2,hsz]
     rw[if_pos ⟨h0,J⟩]
     simp only[Sem.run_pure,Result.andThen_ok,ew]
     simp[hsz2,hsz,ew]
    have hget:nth l z.toNat=l[z.toNat]:=aM hlt
    have href:(∀b ∈ fp,Gd c σ.mem Γ b)->∃u,(execOp ac.eval o).run P w=.ok (.value u) w/\aR c σ.mem Γ w (.ref s (nth l z.toNat) 0) u:=by
     intro hg
     obtain⟨ad',cc',h1,_,_,h4⟩:=hr
     rw[hva] at h1
     injection h1 with h1; injection h1 with h1
     subst h1
     rcases h4 with ⟨rfl,_⟩|⟨b,off,fps,hl0,ha,hfp,hlen,he⟩
     ·simp at hlt
     ·obtain⟨f,cs,hfi,hrr,hcs⟩:=he z.toNat l[z.toNat] (getElem?_eq_getElem hlt)
      rw[s.bW] at hcs
      have hcl:=s.rp.len hrr
      have:=s.pos
      have h00:cs[0]? = some (cs[0]'J):=getElem?_eq_getElem J
      refine⟨_,hrun b off ha,b,off+z.toNat * s.size,cs,f,by rw[add_zero],by rw[hget]; exact hrr,hcs,hg b (by rw[hfp]; exact mem_cons_self),fun b' hb'=>hg b' (by rw[hfp]; exact mem_cons_of_mem _ (mem_flatten.2 ⟨f,mem_of_getElem? hfi,hb'⟩)),qY (hcs 0 _ h00)⟩
    cases v with
    | row k ver =>
     have hk:=hm k (by simp[AV.rows])
     simp only[EG]
     cases hlk:lm k with
     | none=>simp only[AV.data,hlk] at hd; cases hd
     | some B =>
      cases B with
      | row e' s' v' o' l' =>
       simp only[AV.data,hlk,Option.bind_some,ay.data] at hd
       split at hd
       ·rename_i hvv
        injection hd with hd; injection hd with d1 d2
        subst d1
        obtain rfl:=eq_of_heq d2
        rw[hlk] at hk
        obtain⟨fps,hg,_⟩:=hs.mm k _ hk
        obtain⟨xs,hown,_⟩:=hg.1
        obtain⟨_,B,hB,hbh⟩:=hv
        rw[hk] at hB; injection hB with hB; subst hB
        have hhd:=hbh.2 hvv
        rcases hown.2 with ⟨hn,hn0⟩|⟨g,cap,cur,hvh,hbg,hg',_⟩
        ·omega
        ·rw[hhd,hvh] at hva
         injection hva with a1 a2 a3
         refine⟨_,hrun g 0 a1.symm,rfl,_,hk,fun e2 t2 v2 o2 l2 he=>?_⟩
         injection he with q1 q2 q3 q4 q5
         subst q2 q3
         refine⟨J,fun _=>⟨g,_,cap,hvh,?_⟩⟩
         rw[s'.bW,zero_add,add_zero]
       ·cases hd
      | cU s' l' =>
       refine href (hgd fun k' ver' e=>?_)
       injection e with e1 e2; subst e1
       rw[hk,hlk]; intro e t v o l hh; cases hh
      | jH s' v' l' =>
       refine href (hgd fun k' ver' e=>?_)
       injection e with e1 e2; subst e1
       rw[hk,hlk]; intro e t v o l hh; cases hh
      | bx _ _=>simp only[AV.data,hlk,Option.bind_some,ay.data] at hd; cases hd
      | dead=>simp only[AV.data,hlk,Option.bind_some,ay.data] at hd; cases hd
      | cu _ _=>simp only[AV.data,hlk,Option.bind_some,ay.data] at hd; cases hd
      | ob _ _ _=>simp only[AV.data,hlk,Option.bind_some,ay.data] at hd; cases hd
    | sl s' l'=>exact href (hgd fun k' ver' e=>by cases e)
    | fx _ s' l'=>exact href (hgd fun k' ver' e=>by cases e)
    | _=>cases hd
   ·split at h
    ·rename_i k n hdn
     split at h
     ·rename_i s l hk
      obtain⟨rfl,hsz,h0,hz,hK⟩:=h
      refine⟨_,hK,aT.pure fun σ Γ ac w hs hl hm=>?_⟩
      obtain⟨_,B,hB,hh⟩:=(aX hs hl (by simp[ho,Op.operands]) hx:aR c σ.mem Γ w _ (ac.eval x))
      have hk':=(hm k ah).trans hk
      rw[hk'] at hB; injection hB with hB; subst hB
      have e2:ac.eval y=_:=(aX hs hl (by simp[ho,Op.operands]) hy:aR c σ.mem Γ w _ (ac.eval y)).1
      obtain⟨hr,_⟩:=hs.mm k _ hk'
      have hhd:=hh rfl
      rw[<-hhd] at hr
      obtain⟨ad,cc,e1,hlc,_,h4⟩:=hr
      injection e1 with hva
      rcases h4 with ⟨rfl,_⟩|⟨b,off,fps,hl0,rfl,_⟩
      ·simp at hz; omega
      ·have hsz2:=(hT e t ht).sizeOf w
       refine⟨.pointer (some ⟨b,off+z.toNat * s.size,none⟩),?_,rfl,_,hk',fun t2 l2 _=>⟨b,off,l.length,cc,by rw[<-hhd,hva],by rw[add_zero]⟩⟩
       simp only[execOp,ho,hva,e2,Instr.indexAt,asIntOf,Sem.run_bind,Sem.run_pure,Result.andThen_ok,run_underlying hu,hsz2,hsz]
       rw[if_pos ⟨h0,J⟩]
       simp only[Sem.run_pure,Result.andThen_ok,ew]
       simp[hsz2,hsz,ew]
     ·rename_i xo cs hk
      obtain⟨h0,hz,hK⟩:=h
      refine⟨_,hK,aT.pure fun σ Γ ac w hs hl hm=>?_⟩
      obtain⟨_,B,hB,hh⟩:=(aX hs hl (by simp[ho,Op.operands]) hx:aR c σ.mem Γ w _ (ac.eval x))
      have hk':=(hm k ah).trans hk
      rw[hk'] at hB; injection hB with hB; subst hB
      have e2:ac.eval y=_:=(aX hs hl (by simp[ho,Op.operands]) hy:aR c σ.mem Γ w _ (ac.eval y)).1
      obtain⟨hva,_⟩:=hh
      have hsz2:=(hT e t ht).sizeOf w
      refine⟨.pointer (some ⟨Γ.loc k xo,z.toNat * t.size,none⟩),?_,xo,cs,hk',rfl⟩
      simp only[execOp,ho,hva,e2,Instr.indexAt,asIntOf,Sem.run_bind,Sem.run_pure,Result.andThen_ok,run_underlying hu,hsz2]
      rw[if_pos ⟨h0,J⟩]
      simp only[Sem.run_pure,Result.andThen_ok,ew]
      simp[hsz2,ew]
     ·exact h.elim
    ·exact h.elim
  ·exact h.elim
 ·exact h.elim
end
theorem fj {lm:Nat->Option ay} {ks:List Nat} {p:Nat × ay} (h:p ∈ aJ lm ks):p.1 ∈ ks:=by
 induction ks generalizing lm with
 | nil=>cases h
 | cons k ks ih =>
  simp only[aJ] at h
  split at h
  ·rcases mem_append.1 h with h|h
   ·exact mem_cons_of_mem _ (ih h)
   ·simp at h; subst h; exact mem_cons_self
  ·exact mem_cons_of_mem _ (ih h)
theorem gN {ks:List Nat}:∀{lm lm':Nat->Option ay},(∀k ∈ ks,lm' k=lm k)->aJ lm' ks=aJ lm ks:=by
 induction ks with
 | nil=>intros; rfl
 | cons k ks ih =>
  intro lm lm' h
  simp only[aJ]
  rw[h k mem_cons_self]
  split
  ·exact congrArg (·++[(k,_)]) (ih fun j hj=>by rw[h j (mem_cons_of_mem _ hj)])
  ·exact ih fun j hj=>h j (mem_cons_of_mem _ hj)
section
variable {c:Cx} {Γ:aC} {a:Act} {w:World}
theorem aH.tR {ks:List Nat}:∀{σ:St},aH c σ Γ a w->aH c ⟨σ.tmps,aJ (look σ.mem) ks++σ.mem⟩ Γ a w:=by
 induction ks with
 | nil=>intro σ h; exact h
 | cons k ks ih =>
  intro σ h
  simp only[aJ]
  split
  ·rename_i B hB
   obtain⟨B0,hk,hfz⟩:=Option.bind_eq_some_iff.1 hB
   have h1:aH c ⟨σ.tmps,(k,B) :: σ.mem⟩ Γ a w:=by
    refine h.freeze hk B ?_
    cases B0 with
    | row e t v o l=>injection hfz with hfz; subst hfz; exact .inl ⟨e,t,v,o,l,rfl,rfl⟩
    | cU t l=>injection hfz with hfz; subst hfz; exact .inr (.inl ⟨t,l,rfl,rfl⟩)
    | cu t l=>injection hfz with hfz; subst hfz; exact .inr (.inr (.inl ⟨t,l,rfl,rfl⟩))
    | _=>cases hfz
   have h2:=ih h1
   rw[append_assoc]
   exact h2
  ·exact ih h
theorem pA {ks:List Nat}:∀{M:Mm} {k:Nat} {e:TypeId} {t:Ty} {v:Nat} {o:Bool} {l:List t.den},look (aJ (look M) ks++M) k=some (.row e t v o l)->k ∉ ks/\look M k=some (.row e t v o l):=by
 induction ks with
 | nil=>intro M k e t v o l h; exact⟨by simp,h⟩
 | cons j ks ih =>
  intro M k e t v o l h
  simp only[aJ] at h
  split at h
  ·rename_i B hB
   rw[append_assoc] at h
   obtain⟨h1,h2⟩:=ih (M:=(j,B) :: M) h
   by_cases hkj:k=j
   ·subst hkj
    rw[aD] at h2
    injection h2 with h2
    subst h2
    obtain⟨B0,_,hfz⟩:=Option.bind_eq_some_iff.1 hB
    cases B0<;>first|(injection hfz with hfz; cases hfz)|cases hfz
   ·rw[aG _ _ hkj] at h2
    exact⟨by simp[hkj,h1],h2⟩
  ·rename_i hB
   obtain⟨h1,h2⟩:=ih h
   refine⟨?_,h2⟩
   intro hm
   rcases mem_cons.1 hm with rfl|hm
   ·rw[h2] at hB; cases hB
   ·exact h1 hm
theorem aH.U5 {σ:St} (h:aH c σ Γ a w) {k:Nat} (hk:look σ.mem k=none) {t:Ty} {l:List t.den} {v:Value} {fp:List Nat} (hr:(Rp.slice t.rp t.pos).rep w [v] l fp) (ho:gx c w fp) (hgd:∀b ∈ fp,Gd c σ.mem Γ b)
  (hd:∀b ∈ fp,∀j B,look σ.mem j=some B->b ∉ B.bY Γ j) :
  aH c ⟨σ.tmps,(k,.cU t l) :: σ.mem⟩ (Γ.fB k v fp) a w/\∀x u,aQ c σ.mem Γ w x u->aQ c ((k,.cU t l) :: σ.mem) (Γ.fB k v fp) w x u:=by
 refine⟨h.YB hk hr ho hgd hd,fun x u hx=>?_⟩
 have ch:pG c σ Γ w k (.cU t l) (Γ.fB k v fp) w:=by
  refine⟨aC.ng Γ k _ _,rfl,rfl,rfl,le_refl _,fun _ _ _=>rfl,fun b hb=>hb.elim,fun b hf j B _ hj=>?_⟩
  simp only[ay.bY,aC.ib] at hf
  exact hd b hf j B hj
 refine ch.Pd ?_ ?_ ?_ (by intro t l h; cases h) (.inl (by intro x v d h; cases h)) hx
 ·rintro ver u ⟨_,B,hB,_⟩; rw[hk] at hB; cases hB
 ·rintro ver i off u ⟨_,B,hB,_⟩; rw[hk] at hB; cases hB
 ·intro x cs hB; rw[hk] at hB; cases hB
theorem fM {α:Type} {L:List (Nat × α)} {k:Nat} {B:α} (h:look L k=some B):∃q ∈ L,q.1=k:=by
 induction L with
 | nil=>cases h
 | cons y L ih =>
  obtain⟨ky,By⟩:=y
  simp only[look] at h
  split at h
  ·rename_i e; exact⟨_,mem_cons_self,e.symm⟩
  ·obtain⟨q,hq,e⟩:=ih h; exact⟨q,mem_cons_of_mem _ hq,e⟩
theorem cX:∀{t:Ty} {x:t.den} {k:Nat},∀p ∈ (DW.aN k t x).2,k<=p.1/\p.1 < k+(DW.aN k t x).2.length
 | .int,_,_,_,hp=>by cases hp
 | .bool,_,_,_,hp=>by cases hp
 | .str,_,_,_,hp=>by cases hp
 | .u8,_,_,_,hp=>by cases hp
 | .dr _,_,_,_,hp=>by cases hp
 | .ext _ _,_,_,_,hp=>by cases hp
 | .slice _,_,k,p,hp=>by simp[DW.aN] at hp; subst hp; simp[DW.aN]
 | .prod a b,x,k,p,hp=>by
  simp only[DW.aN,length_append] at hp ⊢
  rcases mem_append.1 hp with hp|hp
  ·have:=cX p hp; omega
  ·have:=cX p hp; omega
theorem aH.aN:∀{t:Ty} {x:t.den} {σ:St} {Γ:aC} {k:Nat} {cs:List Value} {fp:List Nat},aH c σ Γ a w->t.rp.rep w cs x fp->gx c w fp->(∀b ∈ fp,Gd c σ.mem Γ b)->(∀b ∈ fp,∀j B,look σ.mem j=some B->b ∉ B.bY Γ j) →
  (∀p ∈ (aN k t x).2,look σ.mem p.1=none) →
  ∃ Γ',aH c ⟨σ.tmps,(aN k t x).2++σ.mem⟩ Γ' a w/\aA (aQ c ((aN k t x).2++σ.mem) Γ' w) (aN k t x).1 cs/\(∀v u,aQ c σ.mem Γ w v u->aQ c ((aN k t x).2++σ.mem) Γ' w v u) ∧
   (∀b,iB ((aN k t x).2++σ.mem) Γ' b->iB σ.mem Γ b)/\(∀j B,look ((aN k t x).2++σ.mem) j=some B->∀b ∈ B.bY Γ' j,b ∈ fp\/∃B',look σ.mem j=some B'/\b ∈ B'.bY Γ j)
 | .int,n,σ,Γ,k,cs,fp,h,hr,_,_,_,_=>by
  obtain⟨rfl,_,hI⟩:=hr
  exact⟨Γ,h,⟨⟨rfl,rfl,hI⟩,trivial⟩,fun _ _ h=>h,fun _ h=>h,fun j B hB b hb=>.inr ⟨B,hB,hb⟩⟩
 | .bool,n,σ,Γ,k,cs,fp,h,hr,_,_,_,_=>by
  obtain⟨rfl,_⟩:=hr
  exact⟨Γ,h,⟨⟨rfl,rfl,trivial⟩,trivial⟩,fun _ _ h=>h,fun _ h=>h,fun j B hB b hb=>.inr ⟨B,hB,hb⟩⟩
 | .str,n,σ,Γ,k,cs,fp,h,hr,_,_,_,_=>by
  obtain⟨rfl,_,hI⟩:=hr
  exact⟨Γ,h,⟨⟨rfl,rfl,hI⟩,trivial⟩,fun _ _ h=>h,fun _ h=>h,fun j B hB b hb=>.inr ⟨B,hB,hb⟩⟩
 | .u8,n,σ,Γ,k,cs,fp,h,hr,_,_,_,_=>by
  obtain⟨rfl,_,hI⟩:=hr
  exact⟨Γ,h,⟨⟨rfl,rfl,hI⟩,trivial⟩,fun _ _ h=>h,fun _ h=>h,fun j B hB b hb=>.inr ⟨B,hB,hb⟩⟩
 | .dr f,n,σ,Γ,k,cs,fp,h,hr,_,_,_,_=>by
  obtain⟨rfl,_⟩:=hr
  exact⟨Γ,h,⟨⟨rfl,f.one,f.ok⟩,trivial⟩,fun _ _ h=>h,fun _ h=>h,fun j B hB b hb=>.inr ⟨B,hB,hb⟩⟩
 | .ext e s,x,σ,Γ,k,cs,fp,h,hr,_,hg,_,_=>by
  exact⟨Γ,h,oQ (t:=.ext e s) hr hg,fun _ _ h=>h,fun _ h=>h,fun j B hB b hb=>.inr ⟨B,hB,hb⟩⟩
 | .slice s,l,σ,Γ,k,cs,fp,h,hr,ho,hg,hd,hn=>by
  have hr':(Rp.slice s.rp s.pos).rep w cs l fp:=hr
  obtain⟨ad,cc,rfl,_⟩:=hr
  have hk:look σ.mem k=none:=hn (k,.cU s l) (by simp[DW.aN])
  obtain⟨h1,h2⟩:=h.U5 hk hr' ho hg hd
  refine⟨_,h1,⟨⟨rfl,_,aD ..,fun _=>by rw[aC.cI]⟩,trivial⟩,h2,?_,?_⟩
  ·rintro b ⟨j,B,hj,hm⟩
   by_cases hjk:j=k
   ·subst hjk
    simp only[DW.aN,cons_append,nil_append,aD] at hj
    injection hj with hj; subst hj; exact hm.elim
   ·simp only[DW.aN,cons_append,nil_append] at hj
    rw[aG _ _ hjk] at hj
    refine⟨j,B,hj,?_⟩
    obtain⟨e1,e2,e3⟩:=aC.ng Γ k (.slice ad l.length cc) fp j hjk
    cases B<;>simp only[ay.mut,aC.ov,e1,e2,e3] at hm ⊢<;>exact hm
  ·intro j B hj b hb
   by_cases hjk:j=k
   ·subst hjk
    simp only[DW.aN,cons_append,nil_append,aD] at hj
    injection hj with hj; subst hj
    simp only[ay.bY,aC.ib] at hb
    exact .inl hb
   ·simp only[DW.aN,cons_append,nil_append] at hj
    rw[aG _ _ hjk] at hj
    refine .inr ⟨B,hj,?_⟩
    obtain⟨_,_,e3⟩:=aC.ng Γ k (.slice ad l.length cc) fp j hjk
    cases B with
    | row e t v o l=>cases o<;>simp only[ay.bY,e3] at hb ⊢<;>exact hb
    | _=>simp only[ay.bY,e3] at hb ⊢<;>exact hb
 | .prod s u,x,σ,Γ,k,cs,fp,h,hr,ho,hg,hd,hn=>by
  obtain⟨c1,c2,f1,f2,rfl,rfl,h1,h2⟩:=hr
  obtain⟨n1,n2,n12,n21⟩:=FY ho.1
  have o1:gx c w f1:=⟨n1,fun b hb=>ho.2 b (mem_append.2 (.inl hb))⟩
  have o2:gx c w f2:=⟨n2,fun b hb=>ho.2 b (mem_append.2 (.inr hb))⟩
  obtain⟨Γ1,s1,r1,m1,t1,d1⟩:=h.aN (k:=k) h1 o1 (fun b hb=>hg b (mem_append.2 (.inl hb))) (fun b hb=>hd b (mem_append.2 (.inl hb))) (fun p hp=>hn p (by simp only[DW.aN]; exact mem_append.2 (.inr hp)))
  obtain⟨Γ2,s2,r2,m2,t2,d2⟩:=s1.aN (k:=k+(DW.aN k s x.1).2.length) h2 o2 (fun b hb=>⟨(hg b (mem_append.2 (.inr hb))).1,fun hm=>(hg b (mem_append.2 (.inr hb))).2 (t1 b hm)⟩)
   (fun b hb j B hj hbo=>by
    rcases d1 j B hj b hbo with hf|⟨B',hB',hf⟩
    ·exact n21 b hb hf
    ·exact hd b (mem_append.2 (.inr hb)) j B' hB' hf)
   (fun p hp=>by
    have:=hn p (by simp only[DW.aN]; exact mem_append.2 (.inl hp))
    rw[a8,this]
    have hne:look (DW.aN k s x.1).2 p.1=none:=by
     cases hl:look (DW.aN k s x.1).2 p.1 with
     | none=>rfl
     | some B =>
      obtain⟨q,hq,e⟩:=fM hl
      have h1:=cX q hq
      have h2:=cX p hp
      omega
    rw[hne]; rfl)
  simp only[DW.aN,append_assoc]
  refine⟨Γ2,s2,(r1.mono fun v u _ hv=>m2 v u hv).app r2,fun v u hv=>m2 v u (m1 v u hv),fun b hb=>t1 b (t2 b hb),fun j B hj b hb=>?_⟩
  rcases d2 j B hj b hb with hf|⟨B',hB',hf⟩
  ·exact .inl (mem_append.2 (.inr hf))
  ·rcases d1 j B' hB' b hf with hf|hf
   ·exact .inl (mem_append.2 (.inl hf))
   ·exact .inr hf
end
section
variable {P:Program} {T:TypeId->Option Ty} {c:Cx} {lt:Nat->Option AV} {lm:Nat->Option ay} {nx:Nat} {K:bb->Prop} {o:Oper}
theorem fL {w:World}:∀{t:Ty} {x:t.den} {cs:List Value} {fp:List Nat},t.flat=true->t.rp.rep w cs x fp->fp=[]
 | .int,_,_,_,_,h=>h.2.1
 | .bool,_,_,_,_,h=>h.2
 | .str,_,_,_,_,h=>h.2.1
 | .u8,_,_,_,_,h=>h.2.1
 | .dr _,_,_,_,_,h=>h.2
 | .prod a b,x,cs,fp,hf,h=>by
  obtain⟨c1,c2,f1,f2,_,rfl,h1,h2⟩:=h
  simp only[Ty.flat,Bool.and_eq_true] at hf
  rw[fL hf.1 h1,fL hf.2 h2]; rfl
theorem mN {σ:St} {Γ:aC} {a:Act} {w:World} (hs:aH c σ Γ a w):∀{xs:List Operand} {vs:List AV},(∀x ∈ xs,∀t,x=.tmp t->look σ.tmps t=lt t)->ia lt xs=some vs->vs.all AV.ok=true->aA (fun v x=>bq c σ.mem Γ w v (a.eval x)) vs xs
 | [],vs,_,h,_=>by injection h with h; subst h; trivial
 | x :: xs,vs,hl,h,hok=>by
  simp only[ia] at h
  split at h
  ·rename_i v vs' hv hvs
   injection h with h; subst h
   simp only[all_cons,Bool.and_eq_true] at hok
   exact⟨M5 (ll hs (hl x mem_cons_self) hv) hok.1,mN hs (fun y hy=>hl y (mem_cons_of_mem _ hy)) hvs hok.2⟩
  ·cases h
theorem oJ {k:Nat} {t:Ty} {x:t.den} (h:t.isAgg=false):∃v,(DW.aN k t x).1=[v]:=by
 cases t with
 | prod _ _=>cases h
 | _=>exact⟨_,rfl⟩
theorem iv {w:World} {a:Act} {M:Mm} {Γ:aC} {lm':Nat->Option ay} {S:Nat->Prop}:∀{vs:List AV} {xs:List Operand} {args:List aL},aA (fun v x=>bq c M Γ w v (a.eval x)) vs xs->aA (fun v d=>dw lm' d v) vs args →
  (∀v d u,v ∈ vs->bq c M Γ w v u->dw lm' d v->∃fp,bV w u d fp/\∀b ∈ fp,S b)->aA (fun v d=>∃fp,bV w v d fp/\∀b ∈ fp,S b) (xs.map a.eval) args
 | [],[],[],_,_,_=>trivial
 | v :: vs,x :: xs,d :: args,⟨h1,h2⟩,⟨h3,h4⟩,hf=>⟨hf v d _ mem_cons_self h1 h3,iv h2 h4 fun v d u hv=>hf v d u (mem_cons_of_mem _ hv)⟩
 | [],_ :: _,_,h,_,_=>h.elim
 | [],[],_ :: _,_,h,_=>h.elim
 | _ :: _,[],_,h,_,_=>h.elim
 | _ :: _,_ :: _,[],_,h,_=>h.elim
end
structure lI (c:Cx) (σ:St) (Γ:aC) (w:World) (L:Mm) (Γ':aC) (w':World) (F:List Nat):Prop where
 pM:∀k B,look L k=some B->∃t l,B=.cu t l/\(look σ.mem k=none\/(∃t l,look σ.mem k=some (.cu t l))/\Γ'.hd k=Γ.hd k)
 β:∀j,Γ'.β j=Γ.β j
 off:∀j,look L j=none->Γ'.hd j=Γ.hd j/\Γ'.fp j=Γ.fp j
 hF:∀b ∈ F,∃k t l,look L k ≠ none/\look σ.mem k=some (.cu t l)/\b ∈ Γ.fp k
 os:w'.os=w.os
 tape:w'.tape=w.tape
 output:w'.output=w.output
 size:w.heap.size<=w'.heap.size
 heap:∀b,b < w.heap.size->b ∉ F->w'.heap[b]? = w.heap[b]?
 rep:∀k t l,look L k=some (.cu t l)->(Rp.slice t.rp t.pos).rep w' [Γ'.hd k] l (Γ'.fp k)/\gx c w' (Γ'.fp k)/\∀b ∈ Γ'.fp k,b ∈ F\/w.heap.size<=b
 inj:∀k k' b,look L k ≠ none->look L k' ≠ none->b ∈ Γ'.fp k->b ∈ Γ'.fp k'->k=k'
section
variable {c:Cx} {σ:St} {Γ:aC} {a:Act} {w:World} {L:Mm} {Γ':aC} {w':World} {F:List Nat}
theorem mD {M:Mm} {j:Nat} {B:ay} (h:look (L++M) j=some B):look L j=some B\/look L j=none/\look M j=some B:=by
 rw[a8,Option.or_eq_some_iff] at h
 exact h
theorem kU {M:Mm} {j:Nat} {B:ay} (h:look L j=some B):look (L++M) j=some B:=by rw[a8,h]; rfl
theorem fV {M:Mm} {j:Nat} (h:look L j=none):look (L++M) j=look M j:=by rw[a8,h]; rfl
theorem lI.Hq (tn:lI c σ Γ w L Γ' w' F) {j:Nat} {B:ay} {b:Nat} (hj:look L j=none):B.mut Γ' j b ↔ B.mut Γ j b:=by
 obtain⟨e2,e3⟩:=tn.off j hj
 have e1:=tn.β j
 cases B<;>simp only[ay.mut,aC.loc,aC.ov,e1,e2,e3]
theorem lI.aad (tn:lI c σ Γ w L Γ' w' F) {b:Nat} (hb:b ∈ F):iB σ.mem Γ b:=by
 obtain⟨k,t,l,_,h2,h3⟩:=tn.hF b hb
 exact⟨k,_,h2,h3⟩
theorem lI.mut (tn:lI c σ Γ w L Γ' w' F) {b:Nat} (hb:iB (L++σ.mem) Γ' b):iB σ.mem Γ b\/w.heap.size<=b:=by
 obtain⟨j,B,hj,hm⟩:=hb
 rcases mD hj with hl|⟨hl,hj⟩
 ·obtain⟨t,l,rfl,_⟩:=tn.pM j B hl
  rcases (tn.rep j t l hl).2.2 b hm with h|h
  ·exact .inl (tn.aad h)
  ·exact .inr h
 ·exact .inl ⟨j,B,hj,(tn.Hq hl).1 hm⟩
theorem lI.gd (tn:lI c σ Γ w L Γ' w' F) {b:Nat} (hb:Gd c σ.mem Γ b) (hl:b < w.heap.size):Gd c (L++σ.mem) Γ' b:=⟨hb.1,fun hm=>(tn.mut hm).elim hb.2 J⟩
theorem lI.same (tn:lI c σ Γ w L Γ' w' F) {b:Nat} (hb:Gd c σ.mem Γ b) (hl:b < w.heap.size):w'.heap[b]? = w.heap[b]?:=tn.heap b hl fun hm=>hb.2 (tn.aad hm)
theorem lI.Es (tn:lI c σ Γ w L Γ' w' F) {α:Type} {A:Rp α} {cs:List Value} {x:α} {fp:List Nat} (hr:A.rep w cs x fp) (hg:∀b ∈ fp,Gd c σ.mem Γ b):A.rep w' cs x fp/\∀b ∈ fp,Gd c (L++σ.mem) Γ' b :=
 ⟨A.frame hr fun b hb=>tn.same (hg b hb) (A.lt hr b hb),fun b hb=>tn.gd (hg b hb) (A.lt hr b hb)⟩
theorem lI.Pd (tn:lI c σ Γ w L Γ' w' F) {v:AV} {u:Value} (h:aQ c σ.mem Γ w v u):aQ c (L++σ.mem) Γ' w' v u:=by
 cases v with
 | sc v=>exact h
 | sl t l=>obtain⟨fp,hr,hg⟩:=h; obtain⟨h1,h2⟩:=tn.Es hr hg; exact⟨fp,h1,h2⟩
 | fx v t l=>obtain⟨e,fp,hr,hg⟩:=h; obtain⟨h1,h2⟩:=tn.Es hr hg; exact⟨e,fp,h1,h2⟩
 | ex e t x=>obtain⟨fp,hr,hg⟩:=h; obtain⟨h1,h2⟩:=tn.Es hr hg; exact⟨fp,h1,h2⟩
 | iQ f ks =>
  obtain⟨us,rfl,hk⟩:=h
  refine⟨us,rfl,hk.mono fun j u _ hj=>?_⟩
  obtain⟨xo,cs,hc,rfl⟩:=hj
  cases hl:look L j with
  | some B' =>
   obtain⟨t,l,rfl,hold⟩:=tn.pM j B' hl
   rcases hold with h0|⟨⟨t0,l0,h0⟩,_⟩
   ·rw[hc] at h0; cases h0
   ·rw[hc] at h0; cases h0
  | none=>exact⟨xo,cs,by rw[fV hl]; exact hc,by unfold aC.loc; rw[tn.β]⟩
 | row j ver =>
  obtain⟨h1,B,hB,hh⟩:=h
  cases hl:look L j with
  | some B' =>
   obtain⟨t,l,rfl,hold⟩:=tn.pM j B' hl
   refine⟨h1,_,kU hl,?_⟩
   rcases hold with h0|⟨⟨t0,l0,h0⟩,he⟩
   ·rw[hB] at h0; cases h0
   ·rw[hB] at h0; injection h0 with h0; subst h0
    intro hv; rw[he]; exact hh hv
  | none =>
   refine⟨h1,B,by rw[fV hl]; exact hB,?_⟩
   obtain⟨e2,_⟩:=tn.off j hl
   cases B with
   | row e t v o l=>simp only[BH,e2] at hh ⊢; exact hh
   | cU t l=>simp only[BH,e2] at hh ⊢; exact hh
   | cu t l=>simp only[BH,e2] at hh ⊢; exact hh
   | ob x v d=>simp only[BH,aC.ov,e2] at hh ⊢; exact hh
   | bx x cs=>simp only[BH,aC.loc,tn.β] at hh ⊢; exact hh
   | jH t v l =>
    intro e
    obtain⟨fp,hr,hg⟩:=hh e
    obtain⟨h1,h2⟩:=tn.Es hr hg
    exact⟨fp,h1,h2⟩
   | _=>trivial
 | ptr j off =>
  obtain⟨xo,cs,hc,rfl⟩:=h
  refine⟨xo,cs,?_,by unfold aC.loc; rw[tn.β]⟩
  cases hl:look L j with
  | some B' =>
   obtain⟨t,l,rfl,h0|⟨⟨t0,l0,h0⟩,he⟩⟩:=tn.pM j B' hl<;>rw[hc] at h0<;>cases h0
  | none=>rw[fV hl]; exact hc
 | wk j i s off =>
  obtain⟨h1,B,hB,hh⟩:=h
  cases hl:look L j with
  | some B' =>
   obtain⟨t,l,rfl,hold⟩:=tn.pM j B' hl
   refine⟨h1,_,kU hl,fun t' l' _=>?_⟩
   rcases hold with h0|⟨⟨t0,l0,h0⟩,he⟩
   ·rw[hB] at h0; cases h0
   ·rw[hB] at h0; injection h0 with h0
    rw[he]; exact hh t0 l0 h0
  | none =>
   refine⟨h1,B,by rw[fV hl]; exact hB,?_⟩
   rw[(tn.off j hl).1]
   exact hh
 | mX j ver off =>
  obtain⟨h1,B,hB,hh⟩:=h
  cases hl:look L j with
  | some B' =>
   obtain⟨t,l,rfl,_⟩:=tn.pM j B' hl
   exact⟨h1,_,kU hl,fun x v d he=>by cases he⟩
  | none =>
   refine⟨h1,B,by rw[fV hl]; exact hB,?_⟩
   unfold aC.ov at hh ⊢
   rw[(tn.off j hl).1]
   exact hh
 | pL j ver i off =>
  obtain⟨h1,B,hB,hh⟩:=h
  cases hl:look L j with
  | some B' =>
   obtain⟨t,l,rfl,_⟩:=tn.pM j B' hl
   exact⟨h1,_,kU hl,fun e t v o l he=>by cases he⟩
  | none =>
   refine⟨h1,B,by rw[fV hl]; exact hB,?_⟩
   rw[(tn.off j hl).1]
   exact hh
 | ref t x off =>
  obtain⟨b,o,cs,fp,rfl,hr,hc,hgb,hg,hl⟩:=h
  obtain⟨h1,h2⟩:=tn.Es hr hg
  exact⟨b,o,cs,fp,rfl,h1,fun j v hv=>(lz (tn.same hgb hl)).trans (hc j v hv),tn.gd hgb hl,h2,lt_of_lt_of_le hl tn.size⟩
 | _=>exact h
theorem aH.acP (h:aH c σ Γ a w) (tn:lI c σ Γ w L Γ' w' F):aH c ⟨σ.tmps,L++σ.mem⟩ Γ' a w':=by
 have hcr:∀v u,aQ c σ.mem Γ w v u->aQ c (L++σ.mem) Γ' w' v u:=fun v u=>tn.Pd
 have hofp:∀(j:Nat) (B:ay),look L j=none->B.bY Γ' j=B.bY Γ j:=by
  intro j B hj
  obtain⟨_,e3⟩:=tn.off j hj
  cases B with
  | row e t v o l=>cases o<;>simp only[ay.bY,e3]
  | _=>simp only[ay.bY,e3]
 have hFm:∀{b j B},b ∈ F->look L j=none->look σ.mem j=some B->B.mut Γ j b->False:=by
  intro b j B hb hl hj hm
  obtain⟨k,t,l,h1,h2,h3⟩:=tn.hF b hb
  have:=h.inj k j _ B b h2 hj h3 hm
  subst this
  exact h1 hl
 refine⟨fun d v hd=>?_,fun j B hj=>?_,fun j j' B C b hj hj' hb hb'=>?_,fun j j' B C b hj hj' hne hb=>?_,?_,le_trans h.hb tn.size,h.defs,h.sz⟩
 ·obtain⟨u,h1,h2⟩:=h.tm d v hd
  exact⟨u,h1,pN hcr h2⟩
 ·rcases mD hj with hl|⟨hl,hj⟩
  ·obtain⟨t,l,rfl,_⟩:=tn.pM j B hl
   obtain⟨h1,h2,_⟩:=tn.rep j t l hl
   exact⟨h1,h2⟩
  ·have hold:=h.mm j B hj
   obtain⟨e2,e3⟩:=tn.off j hl
   have e1:=tn.β j
   have hblk:∀b,B.mut Γ j b->w'.heap[b]? = w.heap[b]?:=fun b hb=>tn.heap b (h.eE hj hb).2 fun hf=>hFm hf hl hj hb
   cases B with
   | bx xo cs =>
    have el:Γ'.loc j xo=Γ.loc j xo:=by unfold aC.loc; rw[e1]
    obtain⟨h1,us,e,h2,h3⟩:=hold
    exact⟨by rw[el]; exact h1,us,e,by rw[el,hblk _ rfl]; exact h2,h3.mono fun v u _=>hcr v u⟩
   | row e t v o l =>
    obtain⟨fps,hg,hf,hgd,hon⟩:=hold
    have hs:∀b ∈ Γ.fp j,w'.heap[b]? = w.heap[b]?:=fun b hb=>tn.same (hgd b hb) (hg.lt b (hf ▸ hb))
    exact⟨fps,by rw[e2]; exact hg.frame (fun b hb=>hblk b hb) (fun b hb=>hs b (hf ▸ hb)),by rw[e3]; exact hf,fun b hb=>tn.gd (hgd b (e3 ▸ hb)) (hg.lt b (hf ▸ e3 ▸ hb)),fun ho=>by rw[e3]; exact dy (hon ho) hs⟩
   | cU t l =>
    obtain⟨hr,hgd,hon⟩:=hold
    obtain⟨h1,h2⟩:=tn.Es hr hgd
    exact⟨by rw[e2,e3]; exact h1,by rw[e3]; exact h2,by rw[e3]; exact dy hon fun b hb=>tn.same (hgd b hb) ((Rp.slice t.rp t.pos).lt hr b hb)⟩
   | cu t l =>
    obtain⟨hr,hon⟩:=hold
    exact⟨by rw[e2,e3]; exact (Rp.slice t.rp t.pos).frame hr fun b hb=>hblk b hb,by rw[e3]; exact dy hon fun b hb=>hblk b hb⟩
   | ob x v d =>
    obtain⟨b,o,h1,h2,h3,h4⟩:=hold
    have eo:Γ'.ov j x=Γ.ov j x:=by unfold aC.ov; rw[e2]
    exact⟨b,o,by rw[eo]; exact h1,h2,(hblk b h1).trans h3,by rw[eo]; exact h4⟩
   | _=>trivial
 ·rcases mD hj with h1|⟨h1,hj⟩<;>rcases mD hj' with h2|⟨h2,hj'⟩
  ·obtain⟨t,l,rfl,_⟩:=tn.pM j B h1
   obtain⟨t',l',rfl,_⟩:=tn.pM j' C h2
   exact tn.inj j j' b (by rw[h1]; simp) (by rw[h2]; simp) hb hb'
  ·obtain⟨t,l,rfl,_⟩:=tn.pM j B h1
   rw[tn.Hq h2] at hb'
   rcases (tn.rep j t l h1).2.2 b hb with hf|hf
   ·exact (hFm hf h2 hj' hb').elim
   ·have:=(h.eE hj' hb').2; omega
  ·obtain⟨t,l,rfl,_⟩:=tn.pM j' C h2
   rw[tn.Hq h1] at hb
   rcases (tn.rep j' t l h2).2.2 b hb' with hf|hf
   ·exact (hFm hf h1 hj hb).elim
   ·have:=(h.eE hj hb).2; omega
  ·rw[tn.Hq h1] at hb; rw[tn.Hq h2] at hb'
   exact h.inj _ _ _ _ b hj hj' hb hb'
 ·rcases mD hj with h1|⟨h1,hj⟩
  ·obtain⟨t,l,rfl,_⟩:=tn.pM j B h1
   cases hb
  ·rw[hofp j B h1] at hb
   rcases mD hj' with h2|⟨h2,hj'⟩
   ·obtain⟨t,l,rfl,_⟩:=tn.pM j' C h2
    intro hb'; cases hb'
   ·rw[hofp j' C h2]
    exact h.pX j j' B C b hj hj' hne hb
 ·exact h.below.trans ⟨tn.os,tn.tape,tn.output,tn.size,fun b hb hx=>tn.heap b (lt_of_lt_of_le hb h.hb) fun hf=>by
   obtain⟨k,t,l,_,h2,h3⟩:=tn.hF b hf
   rcases (h.eE (b:=b) h2 h3).1 with h4|h4
   ·omega
   ·exact hx h4⟩
end
def OC (L:Mm) (hd:Nat->Value) (v:AV) (u:Value):Prop :=
 match v with
 | .sc z=>u=z/\z.oneCell'=true/\jO z
 | .row j ver=>ver=0/\u=hd j/\u.oneCell'=true/\look L j ≠ none
 | _=>False
theorem xd {t:Ty} {x:t.den} {k j:Nat} (h:look (DW.aN k t x).2 j ≠ none):k<=j/\j < k+(DW.aN k t x).2.length:=by
 cases hl:look (DW.aN k t x).2 j with
 | none=>exact absurd hl h
 | some B=>obtain⟨q,hq,e⟩:=fM hl; have:=cX q hq; omega
theorem pT:∀{t:Ty},t.flat=true->t.plain=true
 | .int,_=>rfl
 | .bool,_=>rfl
 | .str,_=>rfl
 | .u8,_=>rfl
 | .dr _,_=>rfl
 | .ext _ _,h=>by cases h
 | .slice _,h=>by cases h
 | .prod a b,h=>by
  have h:(a.flat && b.flat)=true:=h
  rw[Bool.and_eq_true] at h
  show (a.plain && b.plain)=true
  rw[pT h.1,pT h.2]; rfl
theorem vy {w:World} {base:Nat}:∀{t:Ty} {x:t.den} {k:Nat} {cs:List Value} {fp:List Nat},t.plain=true->t.rp.rep w cs x fp->kF base w fp →
  ∃(hd:Nat->Value) (ff:Nat->List Nat),
   (∀j B,look (DW.aN k t x).2 j=some B->∃s l,B=.cU s l/\(Rp.slice s.rp s.pos).rep w [hd j] l (ff j)/\kF base w (ff j)/\∀b ∈ ff j,b ∈ fp) ∧
   (∀j j' b,look (DW.aN k t x).2 j ≠ none->look (DW.aN k t x).2 j' ≠ none->b ∈ ff j->b ∈ ff j'->j=j')/\aA (OC (DW.aN k t x).2 hd) (DW.aN k t x).1 cs
 | .int,n,k,cs,fp,_,hr,_=>by
  obtain⟨rfl,_,hI⟩:=hr
  exact⟨fun _=>undef,fun _=>[],(fun j B h=>by cases h),(fun j j' b h=>absurd rfl h),⟨⟨rfl,rfl,hI⟩,trivial⟩⟩
 | .bool,n,k,cs,fp,_,hr,_=>by
  obtain⟨rfl,_⟩:=hr
  exact⟨fun _=>undef,fun _=>[],(fun j B h=>by cases h),(fun j j' b h=>absurd rfl h),⟨⟨rfl,rfl,trivial⟩,trivial⟩⟩
 | .str,n,k,cs,fp,_,hr,_=>by
  obtain⟨rfl,_,hI⟩:=hr
  exact⟨fun _=>undef,fun _=>[],(fun j B h=>by cases h),(fun j j' b h=>absurd rfl h),⟨⟨rfl,rfl,hI⟩,trivial⟩⟩
 | .u8,n,k,cs,fp,_,hr,_=>by
  obtain⟨rfl,_,hI⟩:=hr
  exact⟨fun _=>undef,fun _=>[],(fun j B h=>by cases h),(fun j j' b h=>absurd rfl h),⟨⟨rfl,rfl,hI⟩,trivial⟩⟩
 | .dr f,n,k,cs,fp,_,hr,_=>by
  obtain⟨rfl,_⟩:=hr
  exact⟨fun _=>undef,fun _=>[],(fun j B h=>by cases h),(fun j j' b h=>absurd rfl h),⟨⟨rfl,f.one,f.ok⟩,trivial⟩⟩
 | .ext _ _,_,_,_,_,hp,_,_=>by cases hp
 | .slice s,l,k,cs,fp,_,hr,ho=>by
  have hr':(Rp.slice s.rp s.pos).rep w cs l fp:=hr
  obtain⟨ad,cc,rfl,_⟩:=hr
  have hj:∀j,look (DW.aN k (.slice s) l).2 j ≠ none->j=k:=fun j h=>by have:=xd h; simp only[aN,length_cons,List.length_nil] at this; omega
  refine⟨fun _=>.slice ad l.length cc,fun _=>fp,fun j B h=>?_,fun j j' b h h' _ _=>(hj j h).trans (hj j' h').symm,⟨⟨rfl,rfl,rfl,by simp[aN,aD]⟩,trivial⟩⟩
  obtain rfl:=hj j (by rw[h]; simp)
  simp only[aN,aD] at h
  injection h with h; subst h
  exact⟨s,l,rfl,hr',ho,fun b hb=>hb⟩
 | .prod s u,x,k,cs,fp,hp,hr,ho=>by
  have hp:(s.plain && u.plain)=true:=hp
  rw[Bool.and_eq_true] at hp
  obtain⟨c1,c2,f1,f2,rfl,rfl,h1,h2⟩:=hr
  obtain⟨n1,n2,n12,n21⟩:=FY ho.1
  have o1:kF base w f1:=⟨n1,fun b hb=>ho.2 b (mem_append.2 (.inl hb))⟩
  have o2:kF base w f2:=⟨n2,fun b hb=>ho.2 b (mem_append.2 (.inr hb))⟩
  obtain⟨hd1,ff1,e1,i1,a1⟩:=vy (k:=k) hp.1 h1 o1
  obtain⟨hd2,ff2,e2,i2,a2⟩:=vy (k:=k+(DW.aN k s x.1).2.length) hp.2 h2 o2
  have hL:(DW.aN k (.prod s u) x).2=(DW.aN (k+(DW.aN k s x.1).2.length) u x.2).2++(DW.aN k s x.1).2:=(rfl)
  have hC:(DW.aN k (.prod s u) x).1=(DW.aN k s x.1).1++(DW.aN (k+(DW.aN k s x.1).2.length) u x.2).1:=(rfl)
  rw[hL,hC]
  generalize hN:k+(DW.aN k s x.1).2.length=N at *
  have g1:∀{j},look (DW.aN k s x.1).2 j ≠ none->j < N:=fun h=>by have:=xd h; omega
  have g2:∀{j},look (DW.aN N u x.2).2 j ≠ none->¬ j < N:=fun h=>by have:=xd h; omega
  have spl:∀{j},look ((DW.aN N u x.2).2++(DW.aN k s x.1).2) j ≠ none->(¬ j < N/\look (DW.aN N u x.2).2 j ≠ none)\/(j < N/\look (DW.aN k s x.1).2 j ≠ none):=by
   intro j h
   cases hl:look (DW.aN N u x.2).2 j with
   | some B=>exact .inl ⟨g2 (by rw[hl]; simp),by simp⟩
   | none=>rw[fV hl] at h; exact .inr ⟨g1 h,h⟩
  refine⟨fun j=>if j < N then hd1 j else hd2 j,fun j=>if j < N then ff1 j else ff2 j,fun j B h=>?_,fun j j' b hj hj' hb hb'=>?_,aA.app (a1.mono fun v uu _ h=>?_) (a2.mono fun v uu _ h=>?_)⟩
  ·rcases mD h with h|⟨_,h⟩
   ·have:=g2 (j:=j) (by rw[h]; simp)
    simp only[if_neg this]
    obtain⟨s,l,q1,q2,q3,q4⟩:=e2 j B h
    exact⟨s,l,q1,q2,q3,fun b hb=>mem_append.2 (.inr (q4 b hb))⟩
   ·have:=g1 (j:=j) (by rw[h]; simp)
    simp only[if_pos this]
    obtain⟨s,l,q1,q2,q3,q4⟩:=e1 j B h
    exact⟨s,l,q1,q2,q3,fun b hb=>mem_append.2 (.inl (q4 b hb))⟩
  ·have in1:∀{j},look (DW.aN k s x.1).2 j ≠ none->b ∈ ff1 j->b ∈ f1:=fun {j} h hb=>by
    cases hl:look (DW.aN k s x.1).2 j with
    | none=>exact absurd hl h
    | some B=>obtain⟨_,_,_,_,_,q⟩:=e1 j B hl; exact q b hb
   have in2:∀{j},look (DW.aN N u x.2).2 j ≠ none->b ∈ ff2 j->b ∈ f2:=fun {j} h hb=>by
    cases hl:look (DW.aN N u x.2).2 j with
    | none=>exact absurd hl h
    | some B=>obtain⟨_,_,_,_,_,q⟩:=e2 j B hl; exact q b hb
   rcases spl hj with ⟨p1,p2⟩|⟨p1,p2⟩<;>rcases spl hj' with ⟨q1,q2⟩|⟨q1,q2⟩<;>simp only[p1,q1,if_true,if_false] at hb hb'
   ·exact i2 j j' b p2 q2 hb hb'
   ·exact absurd (in2 p2 hb) (n12 b (in1 q2 hb'))
   ·exact absurd (in2 q2 hb') (n12 b (in1 p2 hb))
   ·exact i1 j j' b p2 q2 hb hb'
  ·cases v with
   | sc z=>exact h
   | row j ver =>
    obtain⟨p1,p2,p3,p4⟩:=h
    have:=g1 p4
    refine⟨p1,by simp only[if_pos this]; exact p2,p3,?_⟩
    cases hl:look (DW.aN N u x.2).2 j with
    | none=>rw[fV hl]; exact p4
    | some B=>rw[kU hl]; simp
   | _=>exact h.elim
  ·cases v with
   | sc z=>exact h
   | row j ver =>
    obtain⟨p1,p2,p3,p4⟩:=h
    have:=g2 p4
    refine⟨p1,by simp only[if_neg this]; exact p2,p3,?_⟩
    cases hl:look (DW.aN N u x.2).2 j with
    | none=>exact absurd hl p4
    | some B=>rw[kU hl]; simp
   | _=>exact h.elim
theorem vW {L:Mm} {k:Nat}:look (dF L) k=(look L k).map ay.Ht:=by
 induction L with
 | nil=>rfl
 | cons p L ih =>
  obtain⟨j,B⟩:=p
  simp only[dF,look]
  split
  ·rfl
  ·exact ih
section
variable {c:Cx} {σ:St} {Γ:aC} {a:Act} {w:World}
theorem aH.Eh (h:aH c σ Γ a w) {w':World} (hb:Below w.heap.size w w') {t:Ty} {x:t.den} {k:Nat} {cs:List Value} {fp:List Nat} (hpl:t.plain=true) (hr:t.rp.rep w' cs x fp) (ho:kF w.heap.size w' fp) (hn:∀p ∈ (DW.aN k t x).2,look σ.mem p.1=none) :
  ∃ Γ',aH c ⟨σ.tmps,dF (DW.aN k t x).2++σ.mem⟩ Γ' a w'/\aA (aQ c (dF (DW.aN k t x).2++σ.mem) Γ' w') (DW.aN k t x).1 cs:=by
 obtain⟨hd,ff,e1,i1,a1⟩:=vy (k:=k) hpl hr ho
 have hne:∀{j},look (dF (DW.aN k t x).2) j ≠ none->look (DW.aN k t x).2 j ≠ none:=fun h h0=>h (by rw[vW,h0]; rfl)
 have hold:∀{j B},look (dF (DW.aN k t x).2) j=some B->∃s l,B=.cu s l/\look (DW.aN k t x).2 j=some (.cU s l):=by
  intro j B hj
  rw[vW,map_eq_some_iff] at hj
  obtain⟨B0,h1,rfl⟩:=hj
  obtain⟨s,l,rfl,_⟩:=e1 j B0 h1
  exact⟨s,l,rfl,h1⟩
 let Γ':aC:=⟨Γ.β,fun j=>if (look (dF (DW.aN k t x).2) j).isSome then hd j else Γ.hd j,fun j=>if (look (dF (DW.aN k t x).2) j).isSome then ff j else Γ.fp j⟩
 have hhd:∀{j},look (dF (DW.aN k t x).2) j ≠ none->Γ'.hd j=hd j:=fun {j} h=>if_pos (Option.ne_none_iff_isSome.1 h)
 have hff:∀{j},look (dF (DW.aN k t x).2) j ≠ none->Γ'.fp j=ff j:=fun {j} h=>if_pos (Option.ne_none_iff_isSome.1 h)
 have tn:lI c σ Γ w (dF (DW.aN k t x).2) Γ' w' []:=by
  refine⟨fun j B hj=>?_,fun _=>rfl,fun j hj=>?_,(fun b hb=>by cases hb),hb.os,hb.tape,hb.output,hb.size,fun b hlt _=>hb.block b hlt,fun j s l hj=>?_,fun j j' b hj hj' hbj hbj'=>?_⟩
  ·obtain⟨s,l,rfl,h1⟩:=hold hj
   refine⟨s,l,rfl,.inl ?_⟩
   obtain⟨q,hq,e⟩:=fM h1
   rw[<-e]; exact hn q hq
  ·have:¬ (look (dF (DW.aN k t x).2) j).isSome=true:=by rw[hj]; simp
   exact⟨if_neg this,if_neg this⟩
  ·obtain⟨s',l',e,h1⟩:=hold hj
   injection e with e e'; subst e; obtain rfl:=eq_of_heq e'
   obtain⟨s2,l2,q1,q2,q3,q4⟩:=e1 j _ h1
   injection q1 with q1 q1'; subst q1; obtain rfl:=eq_of_heq q1'
   have hj':look (dF (DW.aN k t x).2) j ≠ none:=by rw[hj]; simp
   rw[hhd hj',hff hj']
   exact⟨q2,⟨q3.1,fun b hb=>⟨.inl (le_trans h.hb (q3.2 b hb).1),(q3.2 b hb).2⟩⟩,fun b hb=>.inr (q3.2 b hb).1⟩
  ·rw[hff hj] at hbj; rw[hff hj'] at hbj'
   exact i1 j j' b (hne hj) (hne hj') hbj hbj'
 refine⟨Γ',h.acP tn,a1.mono fun v u _ hv=>?_⟩
 cases v with
 | sc z=>exact hv
 | row j ver =>
  obtain⟨rfl,rfl,p3,p4⟩:=hv
  have hj:look (dF (DW.aN k t x).2) j ≠ none:=by
   rw[vW]
   cases hl:look (DW.aN k t x).2 j with
   | none=>exact absurd hl p4
   | some B=>simp
  cases hl:look (dF (DW.aN k t x).2) j with
  | none=>exact absurd hl hj
  | some B =>
   obtain⟨s,l,rfl,_⟩:=hold hl
   exact⟨p3,_,kU hl,fun _=>(hhd hj).symm⟩
 | _=>exact hv.elim
theorem VH {lm:Nat->Option ay} {v:AV} (h:∀k ver t l,v=.row k ver->lm k ≠ some (.cu t l)):v.data (kJ lm)=v.data lm:=by
 cases v with
 | row k ver =>
  simp only[AV.data,kJ]
  cases hl:lm k with
  | none=>rfl
  | some B =>
   cases B with
   | cu t l=>exact absurd hl (h k ver t l rfl)
   | _=>rfl
 | _=>rfl
theorem aH.BP (h:aH c σ Γ a w):∀{t:Ty} {x:t.den} {cs:List AV} {us:List Value},aA (aQ c σ.mem Γ w) cs us->Is (kJ (look σ.mem)) t x cs->∃fp,t.rp.rep w us x fp
 | .int,n,cs,us,hc,hi=>let ⟨fp,h1,_⟩:=h.j7 (t:=.int) (x:=n) hc hi; ⟨fp,h1⟩
 | .bool,n,cs,us,hc,hi=>let ⟨fp,h1,_⟩:=h.j7 (t:=.bool) (x:=n) hc hi; ⟨fp,h1⟩
 | .str,n,cs,us,hc,hi=>let ⟨fp,h1,_⟩:=h.j7 (t:=.str) (x:=n) hc hi; ⟨fp,h1⟩
 | .u8,n,cs,us,hc,hi=>let ⟨fp,h1,_⟩:=h.j7 (t:=.u8) (x:=n) hc hi; ⟨fp,h1⟩
 | .dr f,n,cs,us,hc,hi=>let ⟨fp,h1,_⟩:=h.j7 (t:=.dr f) (x:=n) hc hi; ⟨fp,h1⟩
 | .ext e s,x,cs,us,hc,hi=>let ⟨fp,h1,_⟩:=h.j7 (t:=.ext e s) (x:=x) hc hi; ⟨fp,h1⟩
 | .slice s,l,cs,us,hc,hi=>by
  obtain⟨v,rfl,hs⟩:=hi
  by_cases hm:∃k ver t l,v=.row k ver/\look σ.mem k=some (.cu t l)
  ·obtain⟨k,ver,t,l0,rfl,hk⟩:=hm
   rcases hs with hd|⟨hd,_⟩
   ·simp only[AV.data,kJ,hk,Option.map_some,ay.Vv,Option.bind_some,ay.data] at hd
    split at hd
    ·rename_i hv
     injection hd with hd; injection hd with e1 e2
     subst e1; obtain rfl:=eq_of_heq e2
     have hmm:=h.mm k _ hk
     match us,hc with
     | [u],⟨⟨_,B,hB,hh⟩,_⟩ =>
      rw[hk] at hB; injection hB with hB; subst hB
      rw[hh hv]
      exact⟨_,hmm.1⟩
     | [],hc=>exact hc.elim
     | _ :: _ :: _,hc=>exact hc.2.elim
    ·cases hd
   ·cases hd
  ·have he:v.data (kJ (look σ.mem))=v.data (look σ.mem):=VH fun k ver t l e hk=>hm ⟨k,ver,t,l,e,hk⟩
   obtain⟨fp,h1,_⟩:=h.j7 (t:=.slice s) (x:=l) hc ⟨v,rfl,hs.imp (fun hd=>he ▸ hd) id⟩
   exact⟨fp,h1⟩
 | .prod s u,x,cs,us,hc,⟨i1,i2⟩=>by
  obtain⟨f1,r1⟩:=h.BP (hc.take s.size) i1
  obtain⟨f2,r2⟩:=h.BP (hc.drop s.size) i2
  exact⟨f1++f2,_,_,f1,f2,(List.take_append_drop s.size us).symm,rfl,r1,r2⟩
theorem aH.qO (h:aH c σ Γ a w) {v:AV} {u:Value} {d:aL} (hv:bq c σ.mem Γ w v u) (hi:dw (kJ (look σ.mem)) d v):∃fp,bV w u d fp:=by
 cases v with
 | agg cs =>
  obtain⟨us,rfl,hc⟩:=hv
  obtain⟨fp,h1⟩:=h.BP hc hi.2
  exact⟨fp,us,.inl ⟨hi.1,rfl⟩,h1⟩
 | _ =>
  have hi2:=hi.2
  obtain⟨fp,h1⟩:=h.BP (cs:=[_]) (us:=[u]) (And.intro (by simpa only [bq] using hv) trivial) hi2
  exact⟨fp,[u],.inr ⟨hi.1,rfl⟩,h1⟩
end
section
variable {P:Program} {T:TypeId->Option Ty} {c:Cx} [Nonempty (CG P c)] {lt:Nat->Option AV} {lm:Nat->Option ay} {nx:Nat} {K:bb->Prop} {o:Oper}
theorem dR {fop:Operand} {xs:Array Operand} {tys:Array TypeId} (ho:o.op=.call { callee:=.value fop,args:=xs,argTypes:=tys }) {f:FuncId} {vs:List AV} (hf:ev lt fop=some (.sc (.func (.func f) #[] #[]))) (hvs:ia lt xs.toList=some vs) (hok:vs.all AV.ok=true)
  (hen:∀vs w,(callFunc f vs).run P w=.ok (.enter f vs) w):∀(σ:St) (Γ:aC) (a:Act) (w:World),aH c σ Γ a w->(∀t ∈ kG o,look σ.tmps t=lt t)->(execOp a.eval o).run P w=.ok (.enter f (xs.map a.eval)) w/\aA (fun v x=>bq c σ.mem Γ w v (a.eval x)) vs xs.toList:=by
 intro σ Γ a w hs hl
 have hl':∀x ∈ o.op.operands.toList,∀t,x=.tmp t->look σ.tmps t=lt t:=fun x hx t e=>hl t (fX hx e)
 have e1:a.eval fop=_:=(ll hs (hl' fop (by simp[ho,Op.operands,Call.operands])) hf:aR c σ.mem Γ w _ (a.eval fop)).1
 refine⟨?_,mN hs (fun x hx=>hl' x (by simp only[ho,Op.operands,Call.operands]; simp; exact .inr (by simpa using hx))) hvs hok⟩
 have h0:=hen (xs.map a.eval) w
 simp[execOp,ho,resolve,e1,Deferred.ofValue,invoke,h0]
theorem Qo (hnx:∀k,nx<=k->lm k=none) {fop:Operand} {xs:Array Operand} {tys:Array TypeId} (ho:o.op=.call { callee:=.value fop,args:=xs,argTypes:=tys }) {f:FuncId} {vs:List AV} (hf:ev lt fop=some (.sc (.func (.func f) #[] #[]))) (hvs:ia lt xs.toList=some vs) (hok:vs.all AV.ok=true)
  (h:WX P lm nx K f vs):∃e,K e/\aT P c lt lm nx o e:=by
 obtain⟨args,own,d,hfn,hown,hargs,hK⟩:=h
 refine⟨_,hK,?_⟩
 clear hK
 have hrows:∀v ∈ vs,∀k ∈ v.rows,k ∈ vs.flatMap AV.rows:=fun v hv k hk=>mem_flatMap.2 ⟨v,hv,hk⟩
 have hrd:(AS nx (vs.flatMap AV.rows) own d).rd=vs.flatMap AV.rows:=by unfold AS; split<;>rfl
 have hnm:∀p ∈ dF (DW.aN nx d.1 d.2).2,nx<=p.1:=by
  intro p hp
  have:∀(L:Mm),p ∈ dF L->∃q ∈ L,q.1=p.1:=by
   intro L
   induction L with
   | nil=>intro h; cases h
   | cons q L ih =>
    intro h
    rcases mem_cons.1 h with rfl|h
    ·exact⟨q,mem_cons_self,rfl⟩
    ·obtain⟨q',h1,h2⟩:=ih h; exact⟨q',mem_cons_of_mem _ h1,h2⟩
  obtain⟨q,hq,e⟩:=this _ hp
  rw[<-e]; exact (cX q hq).1
 refine⟨fun p hp=>?_,fun σ Γ a w hs hl hm hn hd K Q hK=>?_⟩
 ·unfold AS at hp
  cases own with
  | true=>exact .inl (hnm p hp)
  | false=>cases hp
 rw[hrd] at hm hn
 obtain⟨hr,hv⟩:=dR ho hf hvs hok hfn.1 σ Γ a w hs hl
 unfold Oper.wp
 rw[hr,Oper.upon_enter]
 have hfin:∀(σ':St) (Γ':aC) (w':World) (v:AV) (u:Value),σ'.tmps=σ.tmps->aH c σ' Γ' a w'->aR c σ'.mem Γ' w' v u->(AS nx (vs.flatMap AV.rows) own d).v=v->(AS nx (vs.flatMap AV.rows) own d).j3++σ.mem=σ'.mem->K (a.put o.dst u) w':=by
  intro σ' Γ' w' v u e0 hs' hvr e1 e2
  refine hK Γ' _ _ ?_
  have:=hs'.put (d:=o.dst) hvr (fun x hx=>hd x hx)
  unfold St.app
  rw[e1,e2]
  cases hdst:o.dst<;>simp only[hdst,St.put,<-e0] at this ⊢<;>exact this
 have hma:xs.map a.eval=(xs.toList.map a.eval).toArray:=toList_inj.1 (by rw[toList_map])
 rw[hma]
 have hda:=iv (S:=fun _=>True) hv hargs (fun v d u hvm hvr hi=>by
  obtain⟨fp,h1⟩:=hs.qO hvr (cV (fun k hk=>by simp only[kJ,hm k (hrows v hvm k hk)]) hi)
  exact⟨fp,h1,fun _ _=>trivial⟩)
 refine (hfn.2 w _ _ (jj hs) hda).mono ?_
 rintro e w' ⟨hb,u,rfl,fp,hdr,hown',hfp⟩
 cases own with
 | true =>
  have ho:=hown' rfl
  have hpl:d.1.plain=true:=by
   rw[Bool.true_and,Bool.or_eq_true] at hown
   exact hown.elim id pT
  obtain⟨cs,hpk,hrp⟩:=hdr
  have hn':∀p ∈ (DW.aN nx d.1 d.2).2,look σ.mem p.1=none:=fun p hp=>by
   by_cases hin:p.1 ∈ vs.flatMap AV.rows
   ·rw[hm p.1 hin]; exact hnx _ (cX p hp).1
   ·have hq:∃q ∈ dF (DW.aN nx d.1 d.2).2,q.1=p.1:=by
     have:∀(L:Mm),p ∈ L->∃q ∈ dF L,q.1=p.1:=by
      intro L
      induction L with
      | nil=>intro h; cases h
      | cons q L ih =>
       intro h
       rcases mem_cons.1 h with rfl|h
       ·exact⟨_,mem_cons_self,rfl⟩
       ·obtain⟨q',h1,h2⟩:=ih h; exact⟨q',mem_cons_of_mem _ h1,h2⟩
     exact this _ hp
    obtain⟨q,hq,e⟩:=hq
    rw[<-e]
    exact hn q hq (by rw[e]; exact hin)
  obtain⟨Γ',s1,r1⟩:=hs.Eh hb hpl hrp ho hn'
  refine hfin ⟨σ.tmps,dF (DW.aN nx d.1 d.2).2++σ.mem⟩ Γ' w' (jI nx d) u rfl s1 ?_ rfl rfl
  unfold jI
  rcases hpk with ⟨hag,rfl⟩|⟨hag,rfl⟩
  ·rw[hag]; exact⟨cs,rfl,r1⟩
  ·rw[hag]
   obtain⟨v,hv1⟩:=oJ (k:=nx) (x:=d.2) hag
   rw[hv1] at r1 ⊢
   exact mK r1.1
 | false =>
  have hfl:d.1.flat=true:=by simpa using hown
  have hfp0:fp=[]:=by obtain⟨cs,_,hrp⟩:=hdr; exact fL hfl hrp
  subst hfp0
  exact hfin σ Γ w' (av d.1 d.2) u rfl (hs.frame hb) (b8 (jn hdr fun b hbb=>by cases hbb)) rfl rfl
theorem zG {L:Mm} {p:Nat × ay} (h:p ∈ dF L):∃q ∈ L,q.1=p.1:=by
 induction L with
 | nil=>cases h
 | cons q L ih =>
  rcases mem_cons.1 h with rfl|h
  ·exact⟨q,mem_cons_self,rfl⟩
  ·obtain⟨q',h1,h2⟩:=ih h; exact⟨q',mem_cons_of_mem _ h1,h2⟩
theorem wT {L:Mm} {p:Nat × ay} (h:p ∈ L):∃q ∈ dF L,q.1=p.1:=by
 induction L with
 | nil=>cases h
 | cons q L ih =>
  rcases mem_cons.1 h with rfl|h
  ·exact⟨_,mem_cons_self,rfl⟩
  ·obtain⟨q',h1,h2⟩:=ih h; exact⟨q',mem_cons_of_mem _ h1,h2⟩
theorem FI {α β:Type} {R:α->β->Prop}:∀{l:List α} {m:List β} {i:Nat} {b:β},aA R l m->m[i]? = some b->∃a,l[i]? = some a/\R a b
 | [],[],_,_,_,h=>by simp at h
 | a :: l,b' :: m,0,b,⟨h1,_⟩,h=>by simp at h; subst h; exact⟨a,rfl,h1⟩
 | a :: l,b' :: m,i+1,b,⟨_,h2⟩,h=>by simpa using FI h2 (by simpa using h)
 | [],_ :: _,_,_,h,_=>h.elim
 | _ :: _,[],_,_,h,_=>h.elim
theorem F4 {α β γ:Type} {R:α->β->Prop} {f:γ->β}:∀{l:List α} {m:List γ},aA (fun a x=>R a (f x)) l m->aA R l (m.map f)
 | [],[],_=>trivial
 | _ :: _,_ :: _,⟨h1,h2⟩=>⟨h1,F4 h2⟩
 | [],_ :: _,h=>h.elim
 | _ :: _,[],h=>h.elim
theorem S1 {fop:Operand} {xs:Array Operand} {tys:Array TypeId} (ho:o.op=.call { callee:=.value fop,args:=xs,argTypes:=tys }) {f:FuncId} {vs:List AV} (hf:ev lt fop=some (.sc (.func (.func f) #[] #[]))) (hvs:ia lt xs.toList=some vs) (hok:vs.all AV.ok=true)
  (h:Wz P lm K f vs):∃e,K e/\aT P c lt lm nx o e:=by
 obtain⟨args,i,v,hfn,hargs,hvi,hK⟩:=h
 refine⟨_,hK,?_⟩
 clear hK
 have hrows:∀v ∈ vs,∀k ∈ v.rows,k ∈ vs.flatMap AV.rows:=fun v hv k hk=>mem_flatMap.2 ⟨v,hv,hk⟩
 refine⟨fun p hp=>(by cases hp),fun σ Γ a w hs hl hm hn hd K Q hK=>?_⟩
 obtain⟨hr,hv⟩:=dR ho hf hvs hok hfn.1 σ Γ a w hs hl
 unfold Oper.wp
 rw[hr,Oper.upon_enter]
 have hma:xs.map a.eval=(xs.toList.map a.eval).toArray:=toList_inj.1 (by rw[toList_map])
 rw[hma]
 have hda:=iv (S:=fun _=>True) hv hargs (fun v d u hvm hvr hi=>by
  obtain⟨fp,h1⟩:=hs.qO hvr (cV (fun k hk=>by simp only[kJ,hm k (hrows v hvm k hk)]) hi)
  exact⟨fp,h1,fun _ _=>trivial⟩)
 refine (hfn.2 w _ (jj hs) (hda.mono fun v d _ ⟨fp,h,_⟩=>⟨fp,h⟩)).mono ?_
 rintro e w' ⟨hb,u,hu,rfl⟩
 have hvr:bq c σ.mem Γ w v u:=by
  have h2:=F4 (f:=a.eval) (R:=fun v u=>bq c σ.mem Γ w v u) hv
  obtain⟨v',e1,e2⟩:=FI h2 hu
  rw[hvi] at e1; injection e1 with e1; subst e1
  exact e2
 have hs':=hs.frame hb
 refine hK Γ _ _ ?_
 have:=hs'.put (d:=o.dst) (b8 (xu (fun v u=>vO hb) hvr)) (fun x hx=>hd x hx)
 unfold St.app
 cases hdst:o.dst<;>simp only[hdst,St.put,nil_append] at this ⊢<;>exact this
theorem FA {M:Mm} {Γ:aC} {w:World} {base:Nat} {S:Nat->Prop}:∀{ds:List aL} {us:List Value},(ds.all fun d=>d.1.flat)=true->aA (oy true base S w) us ds->aA (bq c M Γ w) (ds.map fun d=>av d.1 d.2) us
 | [],[],_,_=>trivial
 | d :: ds,u :: us,hfl,⟨⟨fp,hdr,_,_⟩,hr⟩=>by
  simp only[all_cons,Bool.and_eq_true] at hfl
  have hfp0:fp=[]:=by obtain⟨cs,_,hrp⟩:=hdr; exact fL hfl.1 hrp
  subst hfp0
  exact⟨jn hdr (fun b hbb=>by cases hbb),FA hfl.2 hr⟩
 | [],_ :: _,_,h=>h.elim
 | _ :: _,[],_,h=>h.elim
theorem SV (hnx:∀k,nx<=k->lm k=none) {fop:Operand} {xs:Array Operand} {tys:Array TypeId} (ho:o.op=.call { callee:=.value fop,args:=xs,argTypes:=tys }) {f:FuncId} {vs:List AV} (hf:ev lt fop=some (.sc (.func (.func f) #[] #[]))) (hvs:ia lt xs.toList=some vs) (hok:vs.all AV.ok=true)
  (h:WN P lm nx K f vs):∃e,K e/\aT P c lt lm nx o e:=by
 obtain⟨args,d,ds,hfn,hfl,hargs,hK⟩:=h
 rw[Bool.and_eq_true] at hfl
 obtain⟨hpl,hfl⟩:=hfl
 refine⟨_,hK,?_⟩
 clear hK
 have hrows:∀v ∈ vs,∀k ∈ v.rows,k ∈ vs.flatMap AV.rows:=fun v hv k hk=>mem_flatMap.2 ⟨v,hv,hk⟩
 refine⟨fun p hp=>.inl ?_,fun σ Γ a w hs hl hm hn hd K Q hK=>?_⟩
 ·obtain⟨q,hq,e⟩:=zG hp
  rw[<-e]; exact (cX q hq).1
 obtain⟨hr,hv⟩:=dR ho hf hvs hok hfn.1 σ Γ a w hs hl
 unfold Oper.wp
 rw[hr,Oper.upon_enter]
 have hma:xs.map a.eval=(xs.toList.map a.eval).toArray:=toList_inj.1 (by rw[toList_map])
 rw[hma]
 have hda:=iv (S:=fun _=>True) hv hargs (fun v d u hvm hvr hi=>by
  obtain⟨fp,h1⟩:=hs.qO hvr (cV (fun k hk=>by simp only[kJ,hm k (hrows v hvm k hk)]) hi)
  exact⟨fp,h1,fun _ _=>trivial⟩)
 refine (hfn.2 w _ _ (jj hs) hda).mono ?_
 rintro e w' ⟨hb,us,rfl,hres⟩
 match us,hres with
 | u :: us,⟨⟨fp,⟨cs,hpk,hrp⟩,hown,_⟩,hrest⟩ =>
  have ho:=hown rfl
  have hn':∀p ∈ (DW.aN nx d.1 d.2).2,look σ.mem p.1=none:=fun p hp=>by
   by_cases hin:p.1 ∈ vs.flatMap AV.rows
   ·rw[hm p.1 hin]; exact hnx _ (cX p hp).1
   ·obtain⟨q,hq,e⟩:=wT hp
    rw[<-e]
    exact hn q hq (by rw[e]; exact hin)
  obtain⟨Γ',s1,r1⟩:=hs.Eh hb hpl hrp ho hn'
  refine hK Γ' _ _ ?_
  have hv1:bq c (dF (DW.aN nx d.1 d.2).2++σ.mem) Γ' w' (jI nx d) u:=by
   unfold jI
   rcases hpk with ⟨hag,rfl⟩|⟨hag,rfl⟩
   ·rw[hag]; exact⟨cs,rfl,r1⟩
   ·rw[hag]
    obtain⟨v,hv1⟩:=oJ (k:=nx) (x:=d.2) hag
    rw[hv1] at r1 ⊢
    have hc:=r1.1
    simp only[false_eq_true,if_false,List.headD_cons]
    cases v with
    | agg cs=>exact hc.elim
    | _=>exact hc
  have hv2:aA (bq c (dF (DW.aN nx d.1 d.2).2++σ.mem) Γ' w') (ds.map fun d=>av d.1 d.2) us:=FA hfl hrest
  have:=s1.put (d:=o.dst) (v:=.dY (jI nx d :: ds.map fun d=>av d.1 d.2)) (u:=.tuple (u :: us).toArray) ⟨u :: us,rfl,hv1,hv2⟩ (fun x hx=>hd x hx)
  unfold St.app
  cases hdst:o.dst<;>simp only[hdst,St.put] at this ⊢<;>exact this
 | [],hres=>exact hres.elim
theorem PC (hnx:∀k,nx<=k->lm k=none) {fop:Operand} {xs:Array Operand} {tys:Array TypeId} (ho:o.op=.call { callee:=.value fop,args:=xs,argTypes:=tys }) {f:FuncId} {vs:List AV} (hf:ev lt fop=some (.sc (.func (.func f) #[] #[]))) (hvs:ia lt xs.toList=some vs) (hok:vs.all AV.ok=true)
  (h:Qa P lm nx K f vs):∃e,K e/\aT P c lt lm nx o e:=h.1.elim
theorem Ut {fop:Operand} {xs:Array Operand} {tys:Array TypeId} (ho:o.op=.call { callee:=.value fop,args:=xs,argTypes:=tys }) {f:FuncId} {vs:List AV} (hf:ev lt fop=some (.sc (.func (.func f) #[] #[]))) (hvs:ia lt xs.toList=some vs) (hok:vs.all AV.ok=true)
  (h:Xg P lm K f vs):∃e,K e/\aT P c lt lm nx o e:=h.1.elim
theorem Gg {w:World} {a:Act} {M:Mm} {Γ:aC}:∀{vs:List AV} {xs:List Operand} {args:List aL},aA (fun v x=>bq c M Γ w v (a.eval x)) vs xs->aA (fun v d=>wP lm d v) vs args →
  (∀v d u,v ∈ vs->bq c M Γ w v u->wP lm d v->∃fp,bV w u d fp/\∀b ∈ fp,(fun _=>True) b)->aA (fun v d=>∃fp,bV w v d fp/\∀b ∈ fp,(fun _=>True) b) (xs.map a.eval) args
 | [],[],[],_,_,_=>trivial
 | v :: vs,x :: xs,d :: args,⟨h1,h2⟩,⟨h3,h4⟩,hf=>⟨hf v d _ mem_cons_self h1 h3,Gg h2 h4 fun v d u hv=>hf v d u (mem_cons_of_mem _ hv)⟩
 | [],_ :: _,_,h,_,_=>h.elim
 | [],[],_ :: _,_,h,_=>h.elim
 | _ :: _,[],_,h,_,_=>h.elim
 | _ :: _,_ :: _,[],_,h,_=>h.elim
theorem XZ {σ:St} {Γ:aC} {a:Act} {w:World} (hs:aH c σ Γ a w) {k ver n:Nat} {e:TypeId} {t:Ty} {l:List t.den} {u:Value} (hk:look σ.mem k=some (.ob none ver (.je e t l))) (hv:aQ c σ.mem Γ w (.mX k ver (n+1)) u) (hn:n+1<=l.length):∃fp,bV w u ⟨.slice t,l.take (n+1)⟩ fp:=by
 obtain⟨_,B,hB,hbh⟩:=hv
 rw[hk] at hB
 injection hB with hB
 subst hB
 obtain⟨_,hbh⟩:=hbh _ _ _ rfl
 obtain⟨g,off,m,cap,q1,q2⟩:=hbh rfl
 rw[if_neg (Nat.succ_ne_zero n)] at q2
 obtain⟨b,ob,h1,_,h3,b',off',cap',us,e1,rfl,h4,h5,h6,h7⟩:=hs.mm _ _ hk
 rw[e1] at h1 q1
 injection q1 with q1 _ q4
 injection q1 with q1
 injection q1 with q1 q3 _
 have h1:some b'=some b:=h1
 injection h1 with h1
 subst h1 q1 q3 q4
 have hl:(l.take (n+1)).length=n+1:=by rw[length_take]; omega
 subst q2
 refine⟨_,[_],.inr ⟨rfl,rfl⟩,some ⟨b',off',none⟩,cap',by rw[hl],by rw[hl]; omega,h5,.inr ⟨b',off',List.replicate (n+1) [],(fun e0=>by rw[show l.take (n+1)=[] from e0] at hl; cases hl),rfl,rfl,by rw[hl,List.length_replicate],fun i x hx=>?_⟩⟩
 rw[getElem?_take] at hx
 split at hx
 ·rename_i hi
  obtain⟨cs,r1,r2⟩:=h7 w i x hx
  exact⟨[],cs,by rw[List.getElem?_replicate,if_pos hi],r1,fun j v hj=>by rw[cell_of_row w _ _ us e (0,0) h3,<-getElem?_toList]; exact r2 j v hj⟩
 ·cases hx
end
theorem mz {β:Nat->Nat}:∀{M:Mm} {k:Nat} {B:ay},look (bw β M) k=some B->∃B0,look M k=some B0/\B=ts β k B0
 | [],_,_,h=>by cases h
 | (j,C) :: M,k,B,h=>by
  simp only[bw,look] at h ⊢
  split at h
  ·rename_i e; injection h with h; subst h e; rw[if_pos rfl]; exact⟨_,rfl,rfl⟩
  ·rename_i e; rw[if_neg e]; exact mz h
theorem iG {β:Nat->Nat}:∀{M:Mm} {k:Nat} {B:ay},look M k=some B->look (bw β M) k=some (ts β k B)
 | [],_,_,h=>by cases h
 | (j,C) :: M,k,B,h=>by
  simp only[bw,look] at h ⊢
  split at h
  ·rename_i e; injection h with h; subst h e; rw[if_pos rfl]
  ·rename_i e; rw[if_neg e]; exact iG h
theorem De {lm lm':Nat->Option ay} {ba:List Nat}:∀{M:Mm},(∀k ∈ M.map (·.1),lm' k=lm k)->jJ lm ba M->jJ lm' ba M
 | [],_,_=>trivial
 | (j,C) :: M,h,⟨h1,h2⟩=>by
  refine⟨?_,De (fun k hk=>h k (mem_cons_of_mem _ hk)) h2⟩
  have e:=h j mem_cons_self
  simp only[jT,e] at h1 ⊢
  exact h1
theorem Ix:∀{M M':Mm},Ce M M'->M'.map (·.1)=M.map (·.1)
 | [],[],_=>rfl
 | (j,C) :: M,(j',C') :: M',⟨e,_,h2⟩=>by
  have e:j=j':=e
  simp only[List.map_cons,Ix h2,e]
 | [],_ :: _,h=>h.elim
 | _ :: _,[],h=>h.elim
theorem iV {lm:Nat->Option ay} {ba:List Nat}:∀{M:Mm} {k:Nat} {B:ay},jJ lm ba M->look M k=some B->jT lm ba k B
 | [],_,_,_,h=>by cases h
 | (j,C) :: M,k,B,⟨h1,h2⟩,h=>by
  simp only[look] at h
  split at h
  ·rename_i e; injection h with h; subst h e; exact h1
  ·exact iV h2 h
theorem jA:∀{M M':Mm} {k:Nat},Ce M M'->(look M k=none/\look M' k=none)\/∃B B',look M k=some B/\look M' k=some B'/\mP B B'
 | [],[],_,_=>.inl ⟨rfl,rfl⟩
 | (j,C) :: M,(j',C') :: M',k,⟨e,h1,h2⟩=>by
  have e:j=j':=e
  subst e
  simp only[look]
  by_cases hk:k=j
  ·rw[if_pos hk,if_pos hk]; exact .inr ⟨_,_,rfl,rfl,h1⟩
  ·rw[if_neg hk,if_neg hk]; exact jA h2
 | [],_ :: _,_,h=>h.elim
 | _ :: _,[],_,h=>h.elim
theorem SJ {M:Mm} {k:Nat} {B:ay} (h:look M k=some B):k ∈ M.map (·.1):=by
 obtain⟨p,hp,e⟩:=fM h
 exact mem_map.2 ⟨p,hp,e⟩
theorem pd {t:Ty} {base:Nat} {w:World} {e:TypeId} {v:Value} {l:List t.den} {fps:List (List Nat)} (hf:t.flat=true) (h:bh t.rp base w e v l fps):fps.flatten=[]:=by
 obtain⟨xs,ho,hl,he⟩:=h
 refine List.flatten_eq_nil_iff.2 fun f hfm=>?_
 obtain⟨i,hi,rfl⟩:=getElem_of_mem hfm
 obtain⟨f',cs,h1,h2,_⟩:=he i (l[i]'J) (getElem?_eq_getElem J)
 rw[getElem?_eq_getElem hi] at h1
 injection h1 with h1
 rw[h1]; exact fL hf h2
theorem vG {α β γ:Type} {R:α->γ->Prop} {Q:α->β->Prop} {R':β->γ->Prop}:∀{l:List α} {m:List β} {n:List γ},(∀a b x,R a x->Q a b->R' b x)->aA R l n->aA Q l m->aA R' m n
 | [],[],[],_,_,_=>trivial
 | _ :: _,_ :: _,_ :: _,h,⟨h1,h2⟩,⟨h3,h4⟩=>⟨h _ _ _ h1 h3,vG h h2 h4⟩
 | [],_ :: _,_,_,_,h=>h.elim
 | _ :: _,[],_,_,_,h=>h.elim
 | [],[],_ :: _,_,h,_=>h.elim
 | _ :: _,_ :: _,[],_,h,_=>h.elim
section
variable {c:Cx} {σ:St} {Γ:aC} {a:Act} {w:World} {M M':Mm}
def tX (c:Cx) (σ:St) (Γ:aC) (w:World) (M:Mm) (n:Nat):Cx:=⟨w.heap.size,w,fun b=>Gd c σ.mem Γ b\/iB M Γ b,n,iB M Γ⟩
theorem MI {ba:List Nat} {k b:Nat} {B:ay} (hs:aH c σ Γ a w) (h:jT (look σ.mem) ba k B) (hm:B.mut Γ k b):∃B0,look σ.mem k=some B0/\B0.mut Γ k b/\(Hr c b\/(c.X b/\∃cs,B=.bx (some b) cs)):=by
 unfold jT at h
 split at h
 ·split at h
  ·rename_i cs0 h0
   refine⟨_,h0,hm,?_⟩
   obtain⟨h1,_⟩:=hs.mm k _ h0
   have e:b=Γ.loc k none:=hm
   rw[e]; exact .inl (.inl h1)
  ·exact h.elim
 ·split at h
  ·rename_i y0 cs0 h0
   obtain⟨rfl,_⟩:=h
   refine⟨_,h0,hm,?_⟩
   obtain⟨h1,_⟩:=hs.mm k _ h0
   have e:b=y0:=hm
   subst e
   exact .inr ⟨h1,_,rfl⟩
  ·exact h.elim
 ·split at h
  ·rename_i e0 t0 v0 o0 l0 h0
   refine⟨_,h0,hm,?_⟩
   obtain⟨fps,hg,_⟩:=hs.mm k _ h0
   exact .inl (hg.own hm).1
  ·exact h.elim
 ·exact h.elim
theorem OO (hs:aH c σ Γ a w) (hM:jJ (look σ.mem) (M.map (·.1)) M) {b:Nat} (h:iB M Γ b):∃k B0,k ∈ M.map (·.1)/\look σ.mem k=some B0/\B0.mut Γ k b/\(Hr c b\/(c.X b/\∃cs,look M k=some (.bx (some b) cs))):=by
 obtain⟨k,B,hk,hm⟩:=h
 obtain⟨B0,h1,h2,h3⟩:=MI hs (iV hM hk) hm
 exact⟨k,B0,SJ hk,h1,h2,h3.imp id fun⟨q1,cs,q2⟩=>⟨q1,cs,q2 ▸ hk⟩⟩
theorem Je (hs:aH c σ Γ a w) (hM:jJ (look σ.mem) (M.map (·.1)) M) {b:Nat} (h:iB M Γ b):iB σ.mem Γ b:=by
 obtain⟨k,B0,_,h1,h2,_⟩:=OO hs hM h
 exact⟨k,B0,h1,h2⟩
theorem MB {β:Nat->Nat} {k b:Nat} {B:ay} {Δ:aC} (h:(ts β k B).mut Δ k b):(∃cs,B=.bx none cs/\b=β k)\/((∀cs,B ≠ .bx none cs)/\B.mut Δ k b):=by
 cases B with
 | bx x cs =>
  cases x with
  | none=>exact .inl ⟨cs,rfl,h⟩
  | some y=>exact .inr ⟨fun cs e=>(by cases e),h⟩
 | _=>exact .inr ⟨fun cs e=>(by cases e),h⟩
theorem TM {M:Mm} {b:Nat} (h:iB (bw Γ.β M) Γ b):iB M Γ b:=by
 obtain⟨k,B,hk,hm⟩:=h
 obtain⟨B0,h0,rfl⟩:=mz hk
 rcases MB hm with ⟨cs,rfl,rfl⟩|⟨_,h1⟩
 ·exact⟨k,_,h0,rfl⟩
 ·exact⟨k,_,h0,h1⟩
theorem JT (hs:aH c σ Γ a w) (hM:jJ (look σ.mem) (M.map (·.1)) M) {n b:Nat} (h:Gd c σ.mem Γ b):Gd (tX c σ Γ w M n) (bw Γ.β M) Γ b :=
 ⟨.inl (.inl h),fun hm=>h.2 (Je hs hM (TM hm))⟩
theorem oN (hs:aH c σ Γ a w) (hM:jJ (look σ.mem) (M.map (·.1)) M) {n:Nat} {u v:AV} {x:Value} (hle:Et (M.map (·.1)) u v) (h:aQ c σ.mem Γ w u x):aQ (tX c σ Γ w M n) (bw Γ.β M) Γ w v x:=by
 cases v with
 | sc y=>obtain rfl:u=.sc y:=hle; exact h
 | sl t l =>
  rcases hle with rfl|⟨rfl,rfl⟩
  ·obtain⟨fp,hr,hg⟩:=h
   exact⟨fp,hr,fun b hb=>JT hs hM (hg b hb)⟩
  ·obtain⟨rfl,_⟩:=h
   exact⟨[],⟨none,0,rfl,le_refl _,zero_le _,.inl ⟨rfl,rfl⟩⟩,fun b hb=>by cases hb⟩
 | row k ver =>
  obtain⟨rfl,hk⟩:=hle
  obtain⟨h1,B,hB,hh⟩:=h
  obtain⟨p,hp,e⟩:=mem_map.1 hk
  cases hl:look M k with
  | none=>exact absurd hk (fun hk=>by
    have:∀{M:Mm},look M k=none->k ∉ M.map (·.1):=by
     intro M
     induction M with
     | nil=>intro _ h; cases h
     | cons q M ih =>
      intro h hq
      simp only[look] at h
      split at h
      ·cases h
      ·rename_i hne
       rcases mem_cons.1 hq with hq|hq
       ·exact hne hq
       ·exact ih h hq
    exact this hl hk)
  | some C =>
   have hE:=iV hM hl
   refine⟨h1,_,iG hl,?_⟩
   unfold jT at hE
   split at hE
   ·rw[hB] at hE
    split at hE
    ·rename_i h0
     injection h0 with h0; subst h0
     exact hh
    ·exact hE.elim
   ·rw[hB] at hE
    split at hE
    ·rename_i h0
     injection h0 with h0; subst h0
     obtain⟨rfl,_⟩:=hE
     exact hh
    ·exact hE.elim
   ·rw[hB] at hE
    split at hE
    ·rename_i e0 t0 v0 o0 l0 h0
     injection h0 with h0; subst h0
     obtain⟨_,rfl,_⟩:=hE
     exact hh
    ·exact hE.elim
   ·exact hE.elim
 | ptr k off =>
  obtain⟨rfl,hk⟩:=hle
  obtain⟨xo,cs,hq,rfl⟩:=h
  obtain⟨p,hp,e⟩:=mem_map.1 hk
  have:∃C,look M k=some C:=by
   have:∀{M:Mm},k ∈ M.map (·.1)->∃C,look M k=some C:=by
    intro M
    induction M with
    | nil=>intro h; cases h
    | cons q M ih =>
     intro hq
     simp only[look]
     split
     ·exact⟨_,rfl⟩
     ·rename_i hne
      rcases mem_cons.1 hq with hq|hq
      ·exact absurd hq hne
      ·exact ih hq
   exact this hk
  obtain⟨C,hl⟩:=this
  have hE:=iV hM hl
  unfold jT at hE
  rw[hq] at hE
  split at hE
  ·rename_i cs1
   split at hE
   ·rename_i cs0 h0
    injection h0 with h0; injection h0 with h0 _; subst h0
    exact⟨some (Γ.β k),cs1,iG hl,rfl⟩
   ·exact hE.elim
  ·rename_i y cs1
   split at hE
   ·rename_i y0 cs0 h0
    injection h0 with h0; injection h0 with h0 _; subst h0
    obtain⟨rfl,_⟩:=hE
    exact⟨some y0,cs1,iG hl,rfl⟩
   ·exact hE.elim
  ·split at hE
   ·rename_i h0; cases h0
   ·exact hE.elim
  ·exact hE.elim
 | _=>exact hle.elim
theorem Hl (hs:aH c σ Γ a w) (hM:jJ (look σ.mem) (M.map (·.1)) M) {n:Nat} {u v:AV} {x:Value} (hno:∀k ver,u=.row k ver->k ∉ M.map (·.1)->∀e t v o l,look σ.mem k ≠ some (.row e t v o l)) (hle:wh (look σ.mem) (M.map (·.1)) u v) (h:aQ c σ.mem Γ w u x):aQ (tX c σ Γ w M n) (bw Γ.β M) Γ w v x:=by
 cases v with
 | sl t l =>
  rcases hle with ⟨hd,hnk⟩|⟨rfl,rfl⟩
  ·obtain⟨fp,hr,_,hg⟩:=hs.rK h hd
   exact⟨fp,hr,fun b hb=>JT hs hM (hg (fun k ver e=>hno k ver e (hnk k (by rw[e]; simp[AV.rows]))) b hb)⟩
  ·exact oN hs hM (v:=.sl t []) (.inr ⟨rfl,rfl⟩) h
 | sc y=>exact oN hs hM (v:=.sc y) hle h
 | row k ver=>exact oN hs hM (v:=.row k ver) hle h
 | ptr k off=>exact oN hs hM (v:=.ptr k off) hle h
 | _=>exact hle.elim
theorem F0 (hs:aH c σ Γ a w) (hM:jJ (look σ.mem) (M.map (·.1)) M) {n:Nat}:∀{cs0 cs:List AV} {us:List Value},(∀k ver,AV.row k ver ∈ cs0->k ∉ M.map (·.1)->∀e t v o l,look σ.mem k ≠ some (.row e t v o l))->aA (aQ c σ.mem Γ w) cs0 us->aA (wh (look σ.mem) (M.map (·.1))) cs0 cs->aA (aQ (tX c σ Γ w M n) (bw Γ.β M) Γ w) cs us
 | [],[],[],_,_,_=>trivial
 | v :: cs0,v' :: cs,y :: us,hn,h1,h2=>⟨Hl hs hM (fun k ver e=>hn k ver (by rw[e]; exact mem_cons_self)) h2.1 h1.1,F0 hs hM (fun k ver hz=>hn k ver (mem_cons_of_mem _ hz)) h1.2 h2.2⟩
 | [],_ :: _,_,_,_,h=>h.elim
 | _ :: _,[],_,_,_,h=>h.elim
 | [],[],_ :: _,_,h,_=>h.elim
 | _ :: _,_ :: _,[],_,h,_=>h.elim
theorem VB (hs:aH c σ Γ a w) (hM:jJ (look σ.mem) (M.map (·.1)) M) {n:Nat} {u v:AV} {x:Value} (hno:∀k ∈ u.rows,k ∉ M.map (·.1)->∀e t v o l,look σ.mem k ≠ some (.row e t v o l)) (hle:AQ (look σ.mem) (M.map (·.1)) u v) (h:bq c σ.mem Γ w u x):bq (tX c σ Γ w M n) (bw Γ.β M) Γ w v x:=by
 have one:∀{v:AV},wh (look σ.mem) (M.map (·.1)) u v->aQ (tX c σ Γ w M n) (bw Γ.β M) Γ w v x:=by
  intro v hle
  have hno':∀k ver,u=.row k ver->k ∉ M.map (·.1)->∀e t v o l,look σ.mem k ≠ some (.row e t v o l):=fun k ver e=>hno k (by rw[e]; simp[AV.rows])
  cases u with
  | agg cs =>
   cases v with
   | sc y=>cases hle
   | sl t l=>rcases hle with ⟨hd,_⟩|⟨hd,_⟩<;>cases hd
   | row k ver=>cases hle.1
   | ptr k off=>cases hle.1
   | _=>exact hle.elim
  | _=>exact Hl hs hM hno' hle h
 cases v with
 | agg cs =>
  cases u with
  | agg cs0 =>
   obtain⟨us,rfl,hc⟩:=h
   exact⟨us,rfl,F0 hs hM (fun k ver hv=>hno k (mem_flatMap.2 ⟨_,hv,by simp⟩)) hc hle⟩
  | _=>exact hle.elim
 | sc y=>exact one (v:=.sc y) hle
 | sl t l=>exact one (v:=.sl t l) hle
 | row k ver=>exact one (v:=.row k ver) hle
 | ptr k off=>exact one (v:=.ptr k off) hle
 | _=>exact hle.elim
theorem aH.toA (hs:aH c σ Γ a w) (hM:jJ (look σ.mem) (M.map (·.1)) M) (a0:Act) (hd:a0.defers=[]):aH (tX c σ Γ w M a0.tmps.size) ⟨[],bw Γ.β M⟩ Γ a0 w:=by
 refine⟨fun d v h=>(by cases h),fun k B hk=>?_,fun k k' B B' b hk hk' hb hb'=>?_,fun k k' B B' b hk hk' hne hb=>?_,.of (Below.refl _ _),le_refl _,hd,rfl⟩
 ·obtain⟨B0,h0,rfl⟩:=mz hk
  have hE:=iV hM h0
  unfold jT at hE
  split at hE
  ·rename_i cs
   split at hE
   ·rename_i cs0 hc
    obtain⟨h1,us,e,h2,h3⟩:=hs.mm k _ hc
    refine⟨?_,us,e,h2,?_⟩
    ·exact⟨k,_,h0,rfl⟩
    ·exact vG (R:=fun u x=>aQ c σ.mem Γ w u x) (fun u v x hu hq=>oN hs hM hq hu) h3 hE
   ·exact hE.elim
  ·rename_i y cs
   split at hE
   ·rename_i y0 cs0 hc
    obtain⟨rfl,hE⟩:=hE
    obtain⟨h1,us,e,h2,h3⟩:=hs.mm k _ hc
    refine⟨?_,us,e,h2,?_⟩
    ·exact⟨k,_,h0,rfl⟩
    ·exact vG (R:=fun u x=>aQ c σ.mem Γ w u x) (fun u v x hu hq=>oN hs hM hq hu) h3 hE
   ·exact hE.elim
  ·rename_i e t v o l
   split at hE
   ·rename_i e0 t0 v0 o0 l0 hc
    obtain⟨rfl,rfl,hl,ho⟩:=hE
    injection hl with hl1 hl2
    subst hl1
    obtain rfl:=hl2
    obtain⟨fps,hg,hf,hgd,hon⟩:=hs.mm k _ hc
    refine⟨fps,⟨hg.1,fun b hb=>.inr ⟨⟨k,_,h0,hb⟩,.inr ⟨k,_,h0,hb⟩⟩⟩,hf,fun b hb=>JT hs hM (hgd b hb),fun hoo=>?_⟩
    rw[hf,pd (ho hoo).2 hg.1]
    exact cO _ _
   ·exact hE.elim
  ·exact hE.elim
 ·obtain⟨B0,h0,rfl⟩:=mz hk
  obtain⟨B0',h0',rfl⟩:=mz hk'
  have m:∀{k:Nat} {B0:ay},look M k=some B0->(ts Γ.β k B0).mut Γ k b->∃C,look σ.mem k=some C/\C.mut Γ k b:=by
   intro k B0 h0 hb
   have hm:B0.mut Γ k b:=by
    rcases MB hb with ⟨cs,rfl,rfl⟩|⟨_,h1⟩
    ·rfl
    ·exact h1
   obtain⟨C,h1,h2,_⟩:=MI hs (iV hM h0) hm
   exact⟨C,h1,h2⟩
  obtain⟨C,h1,h2⟩:=m h0 hb
  obtain⟨C',h1',h2'⟩:=m h0' hb'
  exact hs.inj _ _ _ _ b h1 h1' h2 h2'
 ·obtain⟨B0,h0,rfl⟩:=mz hk
  have hE:=iV hM h0
  unfold jT at hE
  split at hE
  ·cases hb
  ·cases hb
  ·rename_i e t v o l
   split at hE
   ·rename_i e0 t0 v0 o0 l0 hc
    obtain⟨rfl,rfl,hl,ho⟩:=hE
    injection hl with hl1 hl2
    subst hl1
    obtain rfl:=hl2
    cases o with
    | false=>cases hb
    | true =>
     obtain⟨fps,hg,hf,hgd,hon⟩:=hs.mm k _ hc
     have hb:b ∈ Γ.fp k:=hb
     rw[hf,pd (ho rfl).2 hg.1] at hb
     cases hb
   ·exact hE.elim
  ·exact hE.elim
theorem aH.abK (h:aH c σ Γ a w) (hM:jJ (look σ.mem) (M.map (·.1)) M) (hok:Ce M M') {n:Nat} {Γ':aC} {a':Act} {w':World} (hs':aH (tX c σ Γ w M n) ⟨[],bw Γ.β M'⟩ Γ' a' w') :
  ∃ Δ,aH c ⟨σ.tmps,M'++σ.mem⟩ Δ a w':=by
 let Δ:aC:=⟨Γ.β,fun k=>if (look M k).isSome then Γ'.hd k else Γ.hd k,fun k=>if (look M k).isSome then Γ'.fp k else Γ.fp k⟩
 have dn:∀{k:Nat},look M k=none->Δ.hd k=Γ.hd k/\Δ.fp k=Γ.fp k:=fun {k} e=>⟨if_neg (by rw[e]; decide),if_neg (by rw[e]; decide)⟩
 have ds:∀{k:Nat} {B:ay},look M k=some B->Δ.hd k=Γ'.hd k/\Δ.fp k=Γ'.fp k:=fun {k B} e=>⟨if_pos (by rw[e]; rfl),if_pos (by rw[e]; rfl)⟩
 have hsz:w.heap.size<=w'.heap.size:=hs'.below.size
 have same:∀{b:Nat},b < w.heap.size->¬ iB M Γ b->w'.heap[b]? = w.heap[b]?:=fun {b} h1 h2=>hs'.below.block b h1 h2
 have mut':∀{k:Nat} {B':ay} {b:Nat},look M' k=some B'->B'.mut Δ k b->iB (bw Γ.β M') Γ' b:=by
  intro k B' b hk hm
  rcases jA (k:=k) hok with ⟨_,h2⟩|⟨B,C,h1,h2,h3⟩
  ·rw[h2] at hk; cases hk
  ·rw[h2] at hk; injection hk with hk; subst hk
   refine⟨k,_,iG h2,?_⟩
   unfold mP at h3
   split at h3
   ·exact hm
   ·exact hm
   ·have e:(Δ.hd k).ownBlock=some b:=hm
    rw[(ds h1).1] at e; exact e
   ·exact h3.elim
 have mlt:∀{b:Nat},iB (bw Γ.β M') Γ' b->w.heap.size<=b\/iB M Γ b:=by
  rintro b ⟨k,B,hk,hm⟩
  exact (hs'.eE hk hm).1
 have mutN:∀{k:Nat} {B:ay} {b:Nat},look M k=none->(B.mut Δ k b ↔ B.mut Γ k b):=by
  intro k B b hk
  obtain⟨e1,e2⟩:=dn hk
  have e0:Δ.β k=Γ.β k:=rfl
  cases B<;>simp only[ay.mut,aC.loc,aC.ov,e0,e1,e2]
 have hcase:∀{k:Nat} {B:ay},look (M'++σ.mem) k=some B->(∃C,look M k=some C/\look M' k=some B/\mP C B)\/(look M k=none/\look σ.mem k=some B):=by
  intro k B hk
  rcases jA (k:=k) hok with ⟨h1,h2⟩|⟨C,B',h1,h2,h3⟩
  ·rw[a8,h2] at hk; exact .inr ⟨h1,hk⟩
  ·rw[a8,h2] at hk; injection hk with hk; subst hk; exact .inl ⟨C,h1,h2,h3⟩
 have mutA:∀{b:Nat},iB (M'++σ.mem) Δ b->iB (bw Γ.β M') Γ' b\/∃k B,look M k=none/\look σ.mem k=some B/\B.mut Γ k b:=by
  rintro b ⟨k,B,hk,hm⟩
  rcases hcase hk with ⟨C,_,h2,_⟩|⟨h1,h2⟩
  ·exact .inl (mut' h2 hm)
  ·exact .inr ⟨k,B,h1,h2,(mutN h1).1 hm⟩
 have apart:∀{k:Nat} {B:ay} {b:Nat},look M k=none->look σ.mem k=some B->B.mut Γ k b->¬ iB M Γ b:=by
  rintro k B b h1 h2 h3 hm
  obtain⟨k2,B0,q1,q2,q3,_⟩:=OO h hM hm
  have:=h.inj _ _ _ _ b h2 q2 h3 q3
  subst this
  obtain⟨p,hp,e⟩:=mem_map.1 q1
  have:∀{M:Mm},look M k=none->k ∉ M.map (·.1):=by
   intro M
   induction M with
   | nil=>intro _ h; cases h
   | cons q M ih =>
    intro h hq
    simp only[look] at h
    split at h
    ·cases h
    ·rename_i hne
     rcases mem_cons.1 hq with hq|hq
     ·exact hne hq
     ·exact ih h hq
  exact this h1 q1
 have gd:∀{b:Nat},Gd c σ.mem Γ b->b < w.heap.size->Gd c (M'++σ.mem) Δ b:=by
  intro b hb hl
  refine⟨hb.1,fun hm=>?_⟩
  rcases mutA hm with hm|⟨k,B,h1,h2,h3⟩
  ·rcases mlt hm with h4|h4
   ·omega
   ·exact hb.2 (Je h hM h4)
  ·exact hb.2 ⟨k,B,h2,h3⟩
 have gsame:∀{b:Nat},Gd c σ.mem Γ b->b < w.heap.size->w'.heap[b]? = w.heap[b]?:=fun {b} hb hl=>same hl fun hm=>hb.2 (Je h hM hm)
 have rep:∀{α:Type} {A:Rp α} {cs:List Value} {x:α} {fp:List Nat},A.rep w cs x fp->(∀b ∈ fp,Gd c σ.mem Γ b)->A.rep w' cs x fp/\∀b ∈ fp,Gd c (M'++σ.mem) Δ b :=
  fun {α A cs x fp} hr hg=>⟨A.frame hr fun b hb=>gsame (hg b hb) (A.lt hr b hb),fun b hb=>gd (hg b hb) (A.lt hr b hb)⟩
 have hptr:∀{k:Nat} {xo:Option Nat} {cs:List AV},look σ.mem k=some (.bx xo cs)->∃cs',look (M'++σ.mem) k=some (.bx xo cs')/\Δ.loc k xo=Γ.loc k xo:=by
  intro k xo cs hk
  rcases jA (k:=k) hok with ⟨h1,h2⟩|⟨C,B',h1,h2,h3⟩
  ·exact⟨cs,by rw[a8,h2]; exact hk,rfl⟩
  ·have hE:=iV hM h1
   unfold mP at h3
   split at h3
   ·rename_i cs1 cs2
    unfold jT at hE
    simp only[hk] at hE
    cases xo with
    | none=>exact⟨cs2,by rw[a8,h2]; rfl,rfl⟩
    | some y=>exact hE.elim
   ·rename_i y cs1 y' cs2
    unfold jT at hE
    simp only[hk] at hE
    cases xo with
    | none=>exact hE.elim
    | some y0 =>
     obtain⟨rfl,_⟩:=hE
     subst h3
     exact⟨cs2,by rw[a8,h2]; rfl,rfl⟩
   ·unfold jT at hE
    simp only[hk] at hE
   ·exact h3.elim
 have hcr:∀v u,aQ c σ.mem Γ w v u->aQ c (M'++σ.mem) Δ w' v u:=by
  intro v u hv
  cases v with
  | sc v=>exact hv
  | sl t l=>obtain⟨fp,hr,hg⟩:=hv; obtain⟨h1,h2⟩:=rep hr hg; exact⟨fp,h1,h2⟩
  | fx v t l=>obtain⟨e,fp,hr,hg⟩:=hv; obtain⟨h1,h2⟩:=rep hr hg; exact⟨e,fp,h1,h2⟩
  | ex e t x=>obtain⟨fp,hr,hg⟩:=hv; obtain⟨h1,h2⟩:=rep hr hg; exact⟨fp,h1,h2⟩
  | iQ f ks =>
   obtain⟨us,rfl,hk⟩:=hv
   refine⟨us,rfl,hk.mono fun j u _ hj=>?_⟩
   obtain⟨xo,cs,hc,rfl⟩:=hj
   obtain⟨cs',e1,e2⟩:=hptr hc
   exact⟨xo,cs',e1,by rw[e2]⟩
  | ptr k off =>
   obtain⟨xo,cs,hc,rfl⟩:=hv
   obtain⟨cs',e1,e2⟩:=hptr hc
   exact⟨xo,cs',e1,by rw[e2]⟩
  | row k ver =>
   obtain⟨h1,B,hB,hh⟩:=hv
   rcases jA (k:=k) hok with ⟨e1,e2⟩|⟨C,B',e1,e2,e3⟩
   ·refine⟨h1,B,by rw[a8,e2]; exact hB,?_⟩
    obtain⟨d1,d2⟩:=dn e1
    cases B with
    | row e t v o l=>simp only[BH,d1] at hh ⊢; exact hh
    | cU t l=>simp only[BH,d1] at hh ⊢; exact hh
    | cu t l=>simp only[BH,d1] at hh ⊢; exact hh
    | ob x v d=>simp only[BH,aC.ov,d1] at hh ⊢; exact hh
    | bx x cs=>simp only[BH,aC.loc,d2] at hh ⊢; exact hh
    | jH t v l =>
     intro e
     obtain⟨fp,hr,hg⟩:=hh e
     obtain⟨h1,h2⟩:=rep hr hg
     exact⟨fp,h1,h2⟩
    | _=>trivial
   ·refine⟨h1,B',by rw[a8,e2]; rfl,?_⟩
    have hE:=iV hM e1
    unfold mP at e3
    split at e3
    ·unfold jT at hE
     simp only[hB] at hE
     cases B with
     | bx x0 cs0 =>
      cases x0 with
      | none=>exact hh
      | some y=>exact hE.elim
     | _=>exact hE.elim
    ·unfold jT at hE
     simp only[hB] at hE
     cases B with
     | bx x0 cs0 =>
      cases x0 with
      | none=>exact hE.elim
      | some y =>
       obtain⟨rfl,_⟩:=hE
       subst e3
       exact hh
     | _=>exact hE.elim
    ·rename_i q1 q2 q3 q4 q5 q6 q7 q8 q9 q10
     unfold jT at hE
     simp only[hB] at hE
     cases B with
     | row e0 t0 v0 o0 l0 =>
      obtain⟨_,rfl,_⟩:=hE
      have:=hh.1
      exact⟨J,fun e=>J⟩
     | _=>exact hE.elim
    ·exact e3.elim
  | pL k ver i off =>
   obtain⟨h1,B,hB,hh⟩:=hv
   rcases jA (k:=k) hok with ⟨e1,e2⟩|⟨C,B',e1,e2,e3⟩
   ·refine⟨h1,B,by rw[a8,e2]; exact hB,?_⟩
    rw[(dn e1).1]; exact hh
   ·refine⟨h1,B',by rw[a8,e2]; rfl,fun e t v o l he=>?_⟩
    subst he
    have hE:=iV hM e1
    unfold mP at e3
    split at e3
    ·rename_i heq; cases heq
    ·rename_i heq; cases heq
    ·rename_i q1 q2 q3 q4 q5 q6 q7 q8 q9 q10 heq
     injection heq with g1 g2 g3 g4 g5
     subst g1 g2 g3 g4
     unfold jT at hE
     simp only[hB] at hE
     cases B with
     | row e0 t0 v0 o0 l0 =>
      obtain⟨_,rfl,_⟩:=hE
      have:=(hh _ _ _ _ _ rfl).1
      exact⟨J,fun e=>J⟩
     | _=>exact hE.elim
    ·exact e3.elim
  | wk k i s off =>
   obtain⟨h1,B,hB,hh⟩:=hv
   rcases jA (k:=k) hok with ⟨e1,e2⟩|⟨C,B',e1,e2,e3⟩
   ·refine⟨h1,B,by rw[a8,e2]; exact hB,?_⟩
    rw[(dn e1).1]; exact hh
   ·refine⟨h1,B',by rw[a8,e2]; rfl,fun t l he=>?_⟩
    subst he
    unfold mP at e3
    split at e3
    ·rename_i heq; cases heq
    ·rename_i heq; cases heq
    ·rename_i heq; cases heq
    ·exact e3.elim
  | mX k ver off =>
   obtain⟨h1,B,hB,hh⟩:=hv
   rcases jA (k:=k) hok with ⟨e1,e2⟩|⟨C,B',e1,e2,e3⟩
   ·refine⟨h1,B,by rw[a8,e2]; exact hB,?_⟩
    unfold aC.ov at hh ⊢
    rw[(dn e1).1]; exact hh
   ·refine⟨h1,B',by rw[a8,e2]; rfl,fun x v d he=>?_⟩
    subst he
    unfold mP at e3
    split at e3
    ·rename_i heq; cases heq
    ·rename_i heq; cases heq
    ·rename_i heq; cases heq
    ·exact e3.elim
  | ref t x off =>
   obtain⟨b,o,cs,fp,rfl,hr,hc,hgb,hg,hl⟩:=hv
   obtain⟨h1,h2⟩:=rep hr hg
   exact⟨b,o,cs,fp,rfl,h1,fun j v hv=>(lz (gsame hgb hl)).trans (hc j v hv),gd hgb hl,h2,lt_of_lt_of_le hl hsz⟩
  | _=>exact hv
 have hr2:∀{b:Nat},iB M Γ b->Hr c b\/(c.X b/\∃k cs,look (bw Γ.β M') k=some (.bx (some b) cs)):=fun {b} hm=>by
  obtain⟨k,_,_,_,_,h4⟩:=OO h hM hm
  refine h4.imp id fun⟨q1,cs,q2⟩=>⟨q1,k,?_⟩
  rcases jA (k:=k) hok with ⟨e1,_⟩|⟨C,B',e1,e2,e3⟩
  ·rw[e1] at q2; cases q2
  ·rw[e1] at q2; injection q2 with q2; subst q2
   unfold mP at e3
   split at e3
   ·rename_i heq; cases heq
   ·rename_i y cs1 y' cs2 heq
    injection heq with heq _; injection heq with heq; subst heq
    subst e3
    exact⟨cs2,iG e2⟩
   ·rename_i heq; cases heq
   ·exact e3.elim
 have gd2:∀{b:Nat},Gd (tX c σ Γ w M n) (bw Γ.β M') Γ' b->Gd c (M'++σ.mem) Δ b:=by
  intro b hb
  refine⟨?_,fun hm=>?_⟩
  ·rcases hb.1 with (h1|h1)|h1
   ·exact h1.1
   ·rcases hr2 h1 with h2|⟨_,k,cs,h2⟩
    ·exact h2.gd
    ·exact absurd ⟨k,_,h2,rfl⟩ hb.2
   ·exact .inr (le_trans h.hb h1)
  ·rcases mutA hm with hm|⟨k,B,h1,h2,h3⟩
   ·exact hb.2 hm
   ·rcases hb.1 with (h4|h4)|h4
    ·exact h4.2 ⟨k,B,h2,h3⟩
    ·exact apart h1 h2 h3 h4
    ·have:=(h.eE h2 h3).2
     have h4:w.heap.size<=b:=h4
     omega
 have pinE:∀{k:Nat} {B:ay},look (bw Γ.β M') k=some B->∃B' C,look M k=some C/\look M' k=some B'/\B=ts Γ.β k B'/\mP C B'/\look (M'++σ.mem) k=some B':=by
  intro k B hk
  obtain⟨B',h0,e⟩:=mz hk
  rcases jA (k:=k) hok with ⟨_,e2⟩|⟨C,B2,e1,e2,e3⟩
  ·rw[e2] at h0; cases h0
  ·rw[e2] at h0; injection h0 with h0; subst h0
   exact⟨B2,C,e1,e2,e,e3,by rw[a8,e2]; rfl⟩
 have hptr2:∀{k:Nat} {xo:Option Nat} {cs:List AV},look (bw Γ.β M') k=some (.bx xo cs)->∃x' cs',look (M'++σ.mem) k=some (.bx x' cs')/\Δ.loc k x'=Γ'.loc k xo:=by
  intro k xo cs hk
  obtain⟨B',C,e1,e2,e3,e4,e5⟩:=pinE hk
  unfold mP at e4
  split at e4
  ·injection e3 with e3 e6; subst e3; exact⟨_,_,e5,rfl⟩
  ·injection e3 with e3 e6; subst e3; exact⟨_,_,e5,rfl⟩
  ·cases e3
  ·exact e4.elim
 have hcr2:∀v u,aQ (tX c σ Γ w M n) (bw Γ.β M') Γ' w' v u->aQ c (M'++σ.mem) Δ w' v u:=by
  intro v u hv
  cases v with
  | sc v=>exact hv
  | sl t l=>obtain⟨fp,hr,hg⟩:=hv; exact⟨fp,hr,fun b hb=>gd2 (hg b hb)⟩
  | fx v t l=>obtain⟨e,fp,hr,hg⟩:=hv; exact⟨e,fp,hr,fun b hb=>gd2 (hg b hb)⟩
  | ex e t x=>obtain⟨fp,hr,hg⟩:=hv; exact⟨fp,hr,fun b hb=>gd2 (hg b hb)⟩
  | iQ f ks =>
   obtain⟨us,rfl,hk⟩:=hv
   refine⟨us,rfl,hk.mono fun j u _ hj=>?_⟩
   obtain⟨xo,cs,hc,rfl⟩:=hj
   obtain⟨x',cs',e1,e2⟩:=hptr2 hc
   exact⟨x',cs',e1,by rw[e2]⟩
  | ptr k off =>
   obtain⟨xo,cs,hc,rfl⟩:=hv
   obtain⟨x',cs',e1,e2⟩:=hptr2 hc
   exact⟨x',cs',e1,by rw[e2]⟩
  | row k ver =>
   obtain⟨h1,B,hB,hh⟩:=hv
   obtain⟨B',C,e1,e2,rfl,e4,e5⟩:=pinE hB
   refine⟨h1,B',e5,?_⟩
   unfold mP at e4
   split at e4
   ·exact hh
   ·exact hh
   ·simp only[ts,BH,(ds e1).1] at hh ⊢; exact hh
   ·exact e4.elim
  | pL k ver i off =>
   obtain⟨h1,B,hB,hh⟩:=hv
   obtain⟨B',C,e1,e2,rfl,e4,e5⟩:=pinE hB
   refine⟨h1,B',e5,fun e t v o l he=>?_⟩
   subst he
   rw[(ds e1).1]
   exact hh e t v o l rfl
  | wk k i s off =>
   obtain⟨h1,B,hB,hh⟩:=hv
   obtain⟨B',C,e1,e2,rfl,e4,e5⟩:=pinE hB
   refine⟨h1,B',e5,fun t l he=>?_⟩
   subst he
   unfold mP at e4
   split at e4
   ·rename_i heq; cases heq
   ·rename_i heq; cases heq
   ·rename_i heq; cases heq
   ·exact e4.elim
  | mX k ver off =>
   obtain⟨h1,B,hB,hh⟩:=hv
   obtain⟨B',C,e1,e2,rfl,e4,e5⟩:=pinE hB
   refine⟨h1,B',e5,fun x v d he=>?_⟩
   subst he
   unfold mP at e4
   split at e4
   ·rename_i heq; cases heq
   ·rename_i heq; cases heq
   ·rename_i heq; cases heq
   ·exact e4.elim
  | ref t x off =>
   obtain⟨b,o,cs,fp,rfl,hr,hc,hgb,hg,hl⟩:=hv
   exact⟨b,o,cs,fp,rfl,hr,hc,gd2 hgb,fun b' hb'=>gd2 (hg b' hb'),hl⟩
  | _=>exact hv
 have hHr:∀{b k:Nat} {e:TypeId} {t:Ty} {v:Nat} {o:Bool} {l:List t.den},look (bw Γ.β M') k=some (.row e t v o l)->(Γ'.hd k).ownBlock=some b->Hr (tX c σ Γ w M n) b->Hr c b:=fun {b k e t v o l} hk ho hb=>hb.elim (fun h1=>.inl (le_trans h.hb h1)) fun h1=>by
  rcases hr2 h1.1 with h2|⟨_,k2,cs,h2⟩
  ·exact h2
  ·have:=hs'.inj _ _ _ _ b hk h2 ho rfl
   subst this
   rw[hk] at h2; cases h2
 refine⟨Δ,fun d v hd=>?_,fun k B hk=>?_,fun k k' B B' b hk hk' hb hb'=>?_,fun k k' B B' b hk hk' hne hb=>?_,?_,le_trans h.hb hsz,h.defs,h.sz⟩
 ·obtain⟨u,h1,h2⟩:=h.tm d v hd
  exact⟨u,h1,pN hcr h2⟩
 ·rcases hcase hk with ⟨C,h1,h2,h3⟩|⟨h1,h2⟩
  ·have hold:=hs'.mm k _ (iG h2)
   have hE:=iV hM h1
   unfold mP at h3
   split at h3
   ·rename_i cs0 cs1
    obtain⟨_,us,e,g2,g3⟩:=hold
    refine⟨?_,us,e,g2,g3.mono fun v u _=>hcr2 v u⟩
    unfold jT at hE
    simp only at hE
    split at hE
    ·rename_i cs2 hc
     exact (h.mm k _ hc).1
    ·exact hE.elim
   ·rename_i y cs0 y' cs1
    subst h3
    obtain⟨_,us,e,g2,g3⟩:=hold
    refine⟨?_,us,e,g2,g3.mono fun v u _=>hcr2 v u⟩
    unfold jT at hE
    simp only at hE
    split at hE
    ·rename_i y0 cs2 hc
     obtain⟨rfl,_⟩:=hE
     exact (h.mm k _ hc).1
    ·exact hE.elim
   ·rename_i q1 q2 q3 q4 q5 e t v o l
    obtain⟨fps,hg,hf,hgd,hon⟩:=hold
    obtain⟨d1,d2⟩:=ds h1
    refine⟨fps,by rw[d1]; exact⟨hg.1,fun b hb=>hHr (iG h2) hb (hg.2 b hb)⟩,by rw[d2]; exact hf,fun b hb=>gd2 (hgd b (by rw[<-d2]; exact hb)),fun ho=>?_⟩
    rw[d2,hf,pd (h3.2 ho) hg.1]
    exact cO _ _
   ·exact h3.elim
  ·have hold:=h.mm k B h2
   obtain⟨e2,e3⟩:=dn h1
   have hblk:∀b,B.mut Γ k b->w'.heap[b]? = w.heap[b]?:=fun b hb=>same (h.eE h2 hb).2 (apart h1 h2 hb)
   cases B with
   | bx xo cs =>
    obtain⟨h1,us,e,h2,h3⟩:=hold
    exact⟨h1,us,e,by rw[show Δ.loc k xo=Γ.loc k xo from rfl,hblk _ rfl]; exact h2,h3.mono fun v u _=>hcr v u⟩
   | row e t v o l =>
    obtain⟨fps,hg,hf,hgd,hon⟩:=hold
    have hs:∀b ∈ Γ.fp k,w'.heap[b]? = w.heap[b]?:=fun b hb=>gsame (hgd b hb) (hg.lt b (hf ▸ hb))
    exact⟨fps,by rw[e2]; exact hg.frame (fun b hb=>hblk b hb) (fun b hb=>hs b (hf ▸ hb)),by rw[e3]; exact hf,fun b hb=>gd (hgd b (e3 ▸ hb)) (hg.lt b (hf ▸ e3 ▸ hb)),fun ho=>by rw[e3]; exact dy (hon ho) hs⟩
   | cU t l =>
    obtain⟨hr,hgd,hon⟩:=hold
    obtain⟨h1,h2⟩:=rep hr hgd
    exact⟨by rw[e2,e3]; exact h1,by rw[e3]; exact h2,by rw[e3]; exact dy hon fun b hb=>gsame (hgd b hb) ((Rp.slice t.rp t.pos).lt hr b hb)⟩
   | cu t l =>
    obtain⟨hr,hon⟩:=hold
    exact⟨by rw[e2,e3]; exact (Rp.slice t.rp t.pos).frame hr fun b hb=>hblk b hb,by rw[e3]; exact dy hon fun b hb=>hblk b hb⟩
   | ob x v d =>
    obtain⟨b,o,h1,h2,h3,h4⟩:=hold
    have eo:Δ.ov k x=Γ.ov k x:=by unfold aC.ov; rw[e2]
    exact⟨b,o,by rw[eo]; exact h1,h2,(hblk b h1).trans h3,by rw[eo]; exact h4⟩
   | _=>trivial
 ·
  have loc:∀{k:Nat} {B C:ay},look M k=some C->look M' k=some B->B.mut Δ k b->∃B1,look (bw Γ.β M') k=some B1/\B1.mut Γ' k b:=by
   intro k B C h1 h2 hb
   rcases jA (k:=k) hok with ⟨q1,_⟩|⟨C',B2,q1,q2,q3⟩
   ·rw[q1] at h1; cases h1
   ·rw[q2] at h2; injection h2 with h2; subst h2
    refine⟨_,iG q2,?_⟩
    unfold mP at q3
    split at q3
    ·exact hb
    ·exact hb
    ·have e:(Δ.hd k).ownBlock=some b:=hb
     rw[(ds q1).1] at e; exact e
    ·exact q3.elim
  rcases hcase hk with ⟨C,h1,h2,h3⟩|⟨h1,h2⟩<;>rcases hcase hk' with ⟨C',h1',h2',h3'⟩|⟨h1',h2'⟩
  ·obtain⟨B1,g1,g2⟩:=loc h1 h2 hb
   obtain⟨B2,g3,g4⟩:=loc h1' h2' hb'
   exact hs'.inj _ _ _ _ b g1 g3 g2 g4
  ·have hb2:=(mutN h1').1 hb'
   rcases mlt (mut' h2 hb) with h4|h4
   ·have:=(h.eE h2' hb2).2; omega
   ·exact absurd h4 (apart h1' h2' hb2)
  ·have hb2:=(mutN h1).1 hb
   rcases mlt (mut' h2' hb') with h4|h4
   ·have:=(h.eE h2 hb2).2; omega
   ·exact absurd h4 (apart h1 h2 hb2)
  ·exact h.inj _ _ _ _ b h2 h2' ((mutN h1).1 hb) ((mutN h1').1 hb')
 ·have nofp:∀{k:Nat} {B C:ay},look M k=some C->look M' k=some B->mP C B->b ∉ B.bY Δ k:=by
   intro k B C h1 h2 h3 hb
   unfold mP at h3
   split at h3
   ·cases hb
   ·cases hb
   ·rename_i q1 q2 q3 q4 q5 e t v o l
    cases o with
    | false=>cases hb
    | true =>
     have hb:b ∈ Δ.fp k:=hb
     obtain⟨fps,hg,hf,_⟩:=hs'.mm k _ (iG h2)
     rw[(ds h1).2,hf,pd (h3.2 rfl) hg.1] at hb
     cases hb
   ·exact h3.elim
  have ofpN:∀{k:Nat} {B:ay},look M k=none->B.bY Δ k=B.bY Γ k:=by
   intro k B hk
   obtain⟨_,e3⟩:=dn hk
   cases B with
   | row e t v o l=>cases o<;>simp only[ay.bY,e3]
   | _=>simp only[ay.bY,e3]
  rcases hcase hk with ⟨C,h1,h2,h3⟩|⟨h1,h2⟩
  ·exact absurd hb (nofp h1 h2 h3)
  ·rw[ofpN h1] at hb
   rcases hcase hk' with ⟨C',h1',h2',h3'⟩|⟨h1',h2'⟩
   ·exact nofp h1' h2' h3'
   ·rw[ofpN h1']; exact h.pX k k' B B' b h2 h2' hne hb
 ·exact h.below.trans ⟨hs'.below.os,hs'.below.tape,hs'.below.output,hs'.below.size,fun b hb hx=>same (lt_of_lt_of_le hb h.hb) fun hm=>by
   rcases hr2 hm with h4|⟨h4,_⟩
   ·rcases h4.or with h4|h4
    ·omega
    ·exact hx h4
   ·exact hx h4⟩
end
end DW
end Go.Proofs.YtkaclgdhlpphhaaGreat
end
