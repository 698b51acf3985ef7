/-
  Texts of a proof, one behind another: DwI, DwK, DwJ, DwL, DwY, DwM, DwN, DwO, DwP, DwQ, DwR, Data, DwT, Br, OpensU, DwV, Dw80, Dw1, Dw2.
-/
import Derived.Laws.MakeOwn
import Derived.Laws.Cover3
import Derived.Orders
import Derived.Test.YtaflkgjckmfkoaaGreatProg
import Derived.Test.YtaflkgjckmfkoaaGreatRows
import Derived.Test.YtaflkgjckmfkoaaGreatKT1
set_option linter.all false
namespace Go.Proofs.YtaflkgjckmfkoaaGreat.DW
open Go.RowKit
theorem exList {β:Type} {Q:Nat->β->Prop} (n:Nat) (h:∀ i,i < n->∃ y,Q i y):∃ ys:List β,ys.length=n/\∀ i y,ys[i]? = some y->Q i y:=by
 induction n with
 | zero=>exact ⟨[],rfl,fun i y h=>by simp at h⟩
 | succ n ih =>
  obtain ⟨ys,hl,hy⟩:=ih fun i hi=>h i (by omega)
  obtain ⟨y,hq⟩:=h n (by omega)
  refine ⟨ys++[y],by simp [hl],fun i z hz=>?_⟩
  rcases Nat.lt_or_ge i ys.length with hi|hi
  ·rw [List.getElem?_append_left hi] at hz; exact hy i z hz
  ·have hin:i=n:=by have:=(List.getElem?_eq_some_iff.1 hz).1; simp at this; omega
   subst hin
   rw [<-hl] at hz ⊢
   simp at hz
   subst hz
   exact hl ▸ hq
theorem flat_get {α:Type} {css:List (List α)} {n:Nat} (h:∀ cs ∈ css,cs.length=n):css.flatten.length=css.length * n/\∀ i cs j d,css[i]? = some cs->cs[j]? = some d->css.flatten[i * n+j]? = some d:=by
 induction css with
 | nil=>exact ⟨by simp,fun i cs j d h=>by simp at h⟩
 | cons c0 css ih =>
  obtain ⟨h1,h2⟩:=ih fun cs hc=>h cs (List.mem_cons_of_mem _ hc)
  have h0:=h c0 List.mem_cons_self
  refine ⟨by simp only [List.flatten_cons,List.length_append,h1,h0,List.length_cons,Nat.succ_mul]; omega,fun i cs j d hi hj=>?_⟩
  cases i with
  | zero =>
   simp at hi; subst hi
   have:=(List.getElem?_eq_some_iff.1 hj).1
   simp only [List.flatten_cons,Nat.zero_mul,Nat.zero_add]
   rw [List.getElem?_append_left (by omega)]; exact hj
  | succ i =>
   simp at hi
   have:=h2 i cs j d hi hj
   simp only [List.flatten_cons]
   rw [List.getElem?_append_right (by rw [Nat.succ_mul]; omega),h0,Nat.succ_mul]
   rw [show i * n+n+j - n=i * n+j by omega]; exact this
theorem flat_back {α:Type} {css:List (List α)} {n:Nat} (hn:0 < n) (h:∀ cs ∈ css,cs.length=n) {q:Nat} {d:α} (hq:css.flatten[q]? = some d):∃ cs,css[q / n]? = some cs/\cs[q % n]? = some d:=by
 obtain ⟨h1,h2⟩:=flat_get h
 have hlt:=(List.getElem?_eq_some_iff.1 hq).1
 rw [h1] at hlt
 have hi:q / n < css.length:=by rw [Nat.div_lt_iff_lt_mul hn]; exact hlt
 have hc:=h css[q / n] (List.getElem_mem hi)
 have hm:=Nat.mod_lt q hn
 have h3:=h2 (q / n) css[q / n] (q % n) (css[q / n][q % n]'(by omega)) (List.getElem?_eq_getElem hi) (List.getElem?_eq_getElem (by omega))
 rw [show q / n * n+q % n=q by rw [Nat.mul_comm]; exact Nat.div_add_mod q n,hq] at h3
 injection h3 with h3
 exact ⟨_,List.getElem?_eq_getElem hi,by rw [List.getElem?_eq_getElem (by omega),h3]⟩
def RowsOf {α:Type} (A:Rp α) (w:World) (l:List α) (css:List (List Value)) (fps:List (List Nat)):Prop :=
 css.length=l.length/\fps.length=l.length/\∀ (i:Nat) (x:α),l[i]? = some x->∃ cs f,css[i]? = some cs/\fps[i]? = some f/\A.rep w cs x f
theorem RowsOf.len {α:Type} {A:Rp α} {w:World} {l:List α} {css:List (List Value)} {fps:List (List Nat)} (h:RowsOf A w l css fps):∀ cs ∈ css,cs.length=A.size:=by
 intro cs hc
 obtain ⟨i,hi,rfl⟩:=List.getElem_of_mem hc
 obtain ⟨cs',f,h1,_,h3⟩:=h.2.2 i (l[i]'(by have:=h.1; omega)) (List.getElem?_eq_getElem (by have:=h.1; omega))
 rw [List.getElem?_eq_getElem hi] at h1
 injection h1 with h1
 rw [h1]; exact A.len h3
theorem RowsOf.one {α:Type} {A:Rp α} {w:World} {l:List α} {css:List (List Value)} {fps:List (List Nat)} (h:RowsOf A w l css fps):∀ u ∈ css.flatten,u.oneCell'=true:=by
 intro u hu
 obtain ⟨cs,hc,hu⟩:=List.mem_flatten.1 hu
 obtain ⟨i,hi,rfl⟩:=List.getElem_of_mem hc
 obtain ⟨cs',f,h1,_,h3⟩:=h.2.2 i (l[i]'(by have:=h.1; omega)) (List.getElem?_eq_getElem (by have:=h.1; omega))
 rw [List.getElem?_eq_getElem hi] at h1
 injection h1 with h1
 rw [h1] at hu
 exact A.one h3 u hu
theorem slice_rows' {α:Type} {A:Rp α} {p:0 < A.size} {w:World} {u:Value} {l:List α} {fp:List Nat} (h:(Rp.slice A p).rep w [u] l fp) :
  ∃ ad cc css fps,u=.slice ad l.length cc/\RowsOf A w l css fps/\(∀ b ∈ fps.flatten,b ∈ fp)/\(ad=none->l=[])/\(∀ a,ad=some a->∀ j d,css.flatten[j]? = some d->w.cell? (a.add j)=some d)/\(fps.flatten=[]\/∃ b,fp=b :: fps.flatten):=by
 obtain ⟨ad,cc,h1,h2,h3,h4⟩:=h
 injection h1 with h1
 rcases h4 with ⟨rfl,rfl⟩|⟨b,off,fps,hl,ha,hfp,hlen,he⟩
 ·exact ⟨ad,cc,[],[],h1,⟨rfl,rfl,fun i x hx=>by simp at hx⟩,(fun b hb=>by simp at hb),fun _=>rfl,(fun a _ j d hd=>by simp at hd),.inl rfl⟩
 ·have hex:∀ i,i < l.length->∃ cs:List Value,∀ x,l[i]? = some x->∃ f,fps[i]? = some f/\A.rep w cs x f/\∀ j v,cs[j]? = some v->w.cell? ⟨b,off+i * A.size+j,none⟩=some v:=by
   intro i hi
   obtain ⟨f,cs,h1,h2,h3⟩:=he i l[i] (List.getElem?_eq_getElem hi)
   refine ⟨cs,fun x hx=>?_⟩
   rw [List.getElem?_eq_getElem hi] at hx
   injection hx with hx
   subst hx
   exact ⟨f,h1,h2,h3⟩
  obtain ⟨css,hcl,hcs⟩:=exList l.length hex
  have hrows:RowsOf A w l css fps:=by
   refine ⟨hcl,hlen,fun i x hx=>?_⟩
   have hi:=(List.getElem?_eq_some_iff.1 hx).1
   have hc:css[i]? = some (css[i]'(by omega)):=List.getElem?_eq_getElem (by omega)
   obtain ⟨f,h1,h2,_⟩:=hcs i _ hc x hx
   exact ⟨_,f,hc,h1,h2⟩
  refine ⟨ad,cc,css,fps,h1,hrows,(fun b' hb'=>by rw [hfp]; exact List.mem_cons_of_mem _ hb'),(fun hn=>by rw [ha] at hn; cases hn),fun a haa j d hd=>?_,.inr ⟨_,hfp⟩⟩
  rw [ha] at haa
  injection haa with haa
  subst haa
  obtain ⟨cs,hc,hd⟩:=flat_back p hrows.len hd
  have hi:j / A.size < l.length:=by have:=(List.getElem?_eq_some_iff.1 hc).1; omega
  obtain ⟨f,_,_,h3⟩:=hcs _ cs hc _ (List.getElem?_eq_getElem hi)
  have:=h3 _ d hd
  rw [addr_add]
  rw [Nat.add_assoc,show j / A.size * A.size+j % A.size=j by rw [Nat.mul_comm]; exact Nat.div_add_mod j A.size] at this
  exact this
theorem slice_rows {α:Type} {A:Rp α} {p:0 < A.size} {w:World} {u:Value} {l:List α} {fp:List Nat} (h:(Rp.slice A p).rep w [u] l fp) :
  ∃ ad cc css fps,u=.slice ad l.length cc/\RowsOf A w l css fps/\(∀ b ∈ fps.flatten,b ∈ fp)/\(ad=none->l=[])/\∀ a,ad=some a->∀ j d,css.flatten[j]? = some d->w.cell? (a.add j)=some d:=by
 obtain ⟨ad,cc,css,fps,h1,h2,h3,h4,h5,_⟩:=slice_rows' h
 exact ⟨ad,cc,css,fps,h1,h2,h3,h4,h5⟩
section
variable {P:Program} {α:Type} {A:Rp α}
theorem run_appendF {base:Nat} {w:World} {v u:Value} {l m:List α} {fps fps2:List (List Nat)} {css:List (List Value)} {ad:Option Addr} {cc:Nat} (t ty e:TypeId) (i:TypeInfo) (z:Value) (ht:P.underlying t=some (.slice e)) (hi:P.info? e=some i) (hz:i.zero=some z)
  (hsize:i.size=A.size) (hzs:z.cells.size=A.size) (hsz:0 < A.size) (h:GrowF A base w e v l fps) (hu:u=.slice ad m.length cc) (hr:RowsOf A w m css fps2) (hn:ad=none->m=[]) (hc:∀ a,ad=some a->∀ j d,css.flatten[j]? = some d->w.cell? (a.add j)=some d)
  (h63:l.length+m.length<=maxLen) (hbytes:(l.length+m.length) * i.bytes<=140737488355328) (hbase:base<=w.heap.size) (hf1:∀ b ∈ fps.flatten,v.ownBlock ≠ some b) (hf2:∀ b ∈ fps2.flatten,v.ownBlock ≠ some b) :
  ∃ v' w',(Builtin.append_ #[t,t] ty #[v,u]).run P w=.ok v' w'/\GrowF A base w' e v' (l++m) (fps++fps2)/\w.grownBy w' v.ownBlock/\(v'.ownBlock=v.ownBlock\/v'.ownBlock=some w.heap.size):=by
 subst hu
 obtain ⟨xs,ho,hfl,he⟩:=h
 have hlt1:∀ b ∈ fps.flatten,b < w.heap.size:=GrowF.lt ⟨xs,ho,hfl,he⟩
 cases ad with
 | none =>
  have:=hn rfl
  subst this
  have hf0:fps2=[]:=List.eq_nil_of_length_eq_zero hr.2.1
  subst hf0
  refine ⟨v,w,?_,by rw [List.append_nil,List.append_nil]; exact ⟨xs,ho,hfl,he⟩,World.grownBy.refl w _,.inl rfl⟩
  rcases ho.2 with ⟨rfl,h0⟩|⟨g,cap,cur,rfl,_,_,hnc,_⟩
  ·simp [Builtin.append_,run_underlying ht,sizeOf,typeInfo,hi,Builtin.lenOf,Builtin.firstCells]
  ·simp [Builtin.append_,run_underlying ht,sizeOf,typeInfo,hi,Builtin.lenOf,Builtin.firstCells,hnc,storeCells]
 | some a =>
  have hlens:=hr.len
  obtain ⟨g1,g2⟩:=flat_get hlens
  obtain ⟨v',w',hrun,h2,h3,_,h5⟩:=run_append_own_at (P:=P) w base t ty e i z A.size i.bytes ht hi hz hsize rfl hzs hsz v l.length xs ho a m.length cc css.flatten (by rw [g1,hr.1])
   (fun j d hd=>hc a rfl j d hd) hr.one h63 hbytes hbase
  have hkeep:∀ b,b < w.heap.size->v.ownBlock ≠ some b->w'.heap[b]? = w.heap[b]?:=fun b hb hne=>h3.block b hb fun e=>hne e.symm
  refine ⟨v',w',hrun,⟨xs++css.flatten,by rw [List.length_append]; exact h2,by simp [hfl,hr.2.1],fun j x hx=>?_⟩,h3,h5⟩
  have hxl:xs.length=l.length * A.size:=ho.1
  rcases Nat.lt_or_ge j l.length with hj|hj
  ·rw [List.getElem?_append_left hj] at hx
   obtain ⟨f,cs,hf,hrr,hcs⟩:=he j x hx
   refine ⟨f,cs,by rw [List.getElem?_append_left (by omega)]; exact hf,A.frame hrr fun b hb=>hkeep b (A.lt hrr b hb) (hf1 b (List.mem_flatten.2 ⟨f,List.mem_of_getElem? hf,hb⟩)),fun q d hd=>?_⟩
   have:=hcs q d hd
   rw [List.getElem?_append_left (List.getElem?_eq_some_iff.1 this).1]; exact this
  ·rw [List.getElem?_append_right hj] at hx
   obtain ⟨cs,f,hc1,hf,hrr⟩:=hr.2.2 _ x hx
   refine ⟨f,cs,by rw [List.getElem?_append_right (by omega),hfl]; exact hf,A.frame hrr fun b hb=>hkeep b (A.lt hrr b hb) (hf2 b (List.mem_flatten.2 ⟨f,List.mem_of_getElem? hf,hb⟩)),fun q d hd=>?_⟩
   have:=g2 _ cs q d hc1 hd
   have hge:l.length * A.size<=j * A.size:=Nat.mul_le_mul_right _ hj
   rw [List.getElem?_append_right (by omega),hxl]
   rw [Nat.sub_mul] at this
   rw [show j * A.size+q - l.length * A.size=j * A.size - l.length * A.size+q by omega]
   exact this
theorem growF_nil (base:Nat) (w:World) (e:TypeId):GrowF A base w e (.slice none 0 0) [] [] :=
 ⟨[],World.ownsRow_nil w base e A.size,rfl,fun i x h=>by simp at h⟩
theorem growF_new {base:Nat} {w:World} {e:TypeId} {l:List α} {css:List (List Value)} {fps:List (List Nat)} (hb:base<=w.heap.size) (hr:RowsOf A w l css fps) (hl:l.length<=maxLen) (rest:List Value) (cap:Nat) (hcap:l.length<=cap) (hcm:cap<=maxLen)
  (hrest:l.length * A.size+rest.length=cap * A.size):GrowF A base (w.alloc (.cells (css.flatten++rest).toArray e)) e (.slice (some ⟨w.heap.size,0,none⟩) l.length cap) l fps:=by
 obtain ⟨g1,g2⟩:=flat_get hr.len
 have hlen:css.flatten.length=l.length * A.size:=by rw [g1,hr.1]
 refine ⟨css.flatten,⟨hlen,.inr ⟨w.heap.size,cap,_,rfl,hb,heap_at,hcap,hcm,by simp [hlen]; omega,?_⟩⟩,hr.2.1,fun i x hx=>?_⟩
 ·rw [<-hlen,List.take_left']; rfl
 ·obtain ⟨cs,f,h1,h2,h3⟩:=hr.2.2 i x hx
  exact ⟨f,cs,h2,A.frame h3 fun b hb=>Below.heap_alloc w _ b (A.lt h3 b hb),fun j d hd=>g2 i cs j d h1 hd⟩
end
end Go.Proofs.YtaflkgjckmfkoaaGreat.DW

namespace Go.Proofs.YtaflkgjckmfkoaaGreat.DW
open Go.RowKit
def OwnL (lm:Nat->Option Blk):AV->Bool
 | .sc _=>true
 | .row k ver =>
  match lm k with
  | some (.row _ _ v o _)=>v == ver && o
  | some (.odat _ _)=>ver == 0
  | _=>false
 | _=>false
def OwnC (σ:St):AV->Bool:=OwnL (look σ.mem)
section
variable {P:Program} {c:Cx} {σ:St} {Γ:Asg} {a:Act} {w:World}
def Holds (σ:St) (Γ:Asg) (k b:Nat):Prop:=∃ B,look σ.mem k=some B/\(B.mut Γ k b\/b ∈ B.ofp Γ k)
theorem holds_inj (hs:Sim c σ Γ a w) {k k' b:Nat} (h:Holds σ Γ k b) (h':Holds σ Γ k' b):k=k':=by
 obtain ⟨B,hk,hb⟩:=h
 obtain ⟨B',hk',hb'⟩:=h'
 have hgd:∀ {k:Nat} {B:Blk},look σ.mem k=some B->b ∈ B.ofp Γ k->¬ Mut σ.mem Γ b:=by
  intro k B hk hb
  have hB:=hs.mm k B hk
  cases B with
  | row e t v o l =>
   obtain ⟨fps,_,_,hg,_⟩:=hB
   cases o with
   | false=>simp [Blk.ofp] at hb
   | true=>exact (hg b hb).2
  | odat t l=>exact (hB.2.1 b hb).2
  | _=>simp [Blk.ofp] at hb
 rcases hb with hb|hb<;>rcases hb' with hb'|hb'
 ·exact hs.inj _ _ _ _ b hk hk' hb hb'
 ·exact absurd ⟨k,B,hk,hb⟩ (hgd hk' hb')
 ·exact absurd ⟨k',B',hk',hb'⟩ (hgd hk hb)
 ·by_cases hkk:k=k'
  ·exact hkk
  ·exact absurd hb' (hs.disj _ _ _ _ b hk hk' hkk hb)
theorem Sim.ownRep (hs:Sim c σ Γ a w):∀ {t:Ty} {x:t.den} {cs:List AV} {us:List Value},All2 (CRep c σ.mem Γ w) cs us->Is (look σ.mem) t x cs->cs.all (OwnC σ)=true->(cellRows cs).Nodup →
  ∃ fp,t.rp.rep w us x fp/\OwnFp c.base w fp/\∀ b ∈ fp,∃ k ∈ cellRows cs,Holds σ Γ k b
 | .int,n,_,[u],hc,rfl,_,_=>by obtain ⟨⟨rfl,_,hI⟩,_⟩:=hc; exact ⟨[],⟨rfl,rfl,hI⟩,ownFp_nil _ _,fun b hb=>by cases hb⟩
 | .bool,n,_,[u],hc,rfl,_,_=>by obtain ⟨⟨rfl,_⟩,_⟩:=hc; exact ⟨[],⟨rfl,rfl⟩,ownFp_nil _ _,fun b hb=>by cases hb⟩
 | .str,n,_,[u],hc,rfl,_,_=>by obtain ⟨⟨rfl,_,hI⟩,_⟩:=hc; exact ⟨[],⟨rfl,rfl,hI⟩,ownFp_nil _ _,fun b hb=>by cases hb⟩
 | .u8,n,_,[u],hc,rfl,_,_=>by obtain ⟨⟨rfl,_,hI⟩,_⟩:=hc; exact ⟨[],⟨rfl,rfl,hI⟩,ownFp_nil _ _,fun b hb=>by cases hb⟩
 | .cst _,n,_,[u],hc,rfl,_,_=>by obtain ⟨⟨rfl,_⟩,_⟩:=hc; exact ⟨[],⟨rfl,rfl⟩,ownFp_nil _ _,fun b hb=>by cases hb⟩
 | .ext e s,x,cs,[u],hc,hi,ho,_=>by
  rcases hi with rfl|⟨rfl,rfl⟩
  ·cases x<;>cases e<;>simp [OwnC,OwnL,exV] at ho
  ·obtain ⟨⟨rfl,_⟩,_⟩:=hc
   exact ⟨[],⟨rfl,rfl⟩,ownFp_nil _ _,fun b hb=>by cases hb⟩
 | .slice s,l,cs,[u],hc,hi,ho,hn=>by
  obtain ⟨v,e,hs1⟩:=hi
  subst e
  simp only [List.all_cons,List.all_nil,Bool.and_true] at ho
  rcases hs1 with hd|⟨rfl,rfl⟩
  ·cases v with
   | row k ver =>
    obtain ⟨⟨_,B,hB,hh⟩,_⟩:=hc
    simp only [AV.data,hB,Option.bind_some] at hd
    simp only [OwnC,OwnL,hB] at ho
    have hm:=hs.mm k B hB
    cases B with
    | row e s' v' o l' =>
     simp only [Bool.and_eq_true,beq_iff_eq] at ho
     obtain ⟨rfl,rfl⟩:=ho
     simp only [Blk.data,if_true] at hd
     injection hd with hd; injection hd with d1 d2
     subst d1
     obtain rfl:=eq_of_heq d2
     obtain ⟨fps,hg,hf,hgd,hon⟩:=hm
     rw [hh.2 rfl]
     obtain ⟨fp,hr,hfp⟩:=grow_rep hg
     refine ⟨fp,hr,?_,fun b hb=>⟨k,by simp [cellRows],_,hB,?_⟩⟩
     ·rcases hfp with rfl|⟨g,hgo,rfl,hbg,hfr⟩
      ·exact ownFp_nil _ _
      ·have h1:=hon rfl
       rw [hf] at h1
       refine ⟨List.nodup_cons.2 ⟨fun hm=>(hgd g (hf ▸ hm)).2 ⟨k,_,hB,hgo⟩,h1.1⟩,fun b hb=>?_⟩
       rcases List.mem_cons.1 hb with rfl|hb
       ·exact ⟨hbg,hfr⟩
       ·exact h1.2 b hb
     ·rcases hfp with rfl|⟨g,hgo,rfl,_⟩
      ·cases hb
      ·rcases List.mem_cons.1 hb with rfl|hb
       ·exact .inl hgo
       ·exact .inr (by simp only [Blk.ofp,hf]; exact hb)
    | odat s' l' =>
     simp only [beq_iff_eq] at ho
     subst ho
     simp only [Blk.data,if_true] at hd
     injection hd with hd; injection hd with d1 d2
     subst d1
     obtain rfl:=eq_of_heq d2
     rw [hh rfl]
     exact ⟨_,hm.1,hm.2.2,fun b hb=>⟨k,by simp [cellRows],_,hB,.inr hb⟩⟩
    | _=>cases ho
   | sl _ _=>cases ho
   | fx _ _ _=>cases ho
   | _=>cases hd
  ·obtain ⟨⟨rfl,_⟩,_⟩:=hc
   exact ⟨[],⟨none,0,rfl,Nat.le_refl _,Nat.zero_le _,.inl ⟨rfl,rfl⟩⟩,ownFp_nil _ _,fun b hb=>by cases hb⟩
 | .prod s u,x,cs,us,hc,⟨i1,i2⟩,ho,hn=>by
  have hsplit:cellRows cs=cellRows (cs.take s.size)++cellRows (cs.drop s.size):=by
   rw [cellRows,cellRows,cellRows,<-List.flatMap_append,List.take_append_drop]
  rw [hsplit,List.nodup_append] at hn
  rw [List.all_eq_true] at ho
  obtain ⟨f1,r1,o1,g1⟩:=hs.ownRep (hc.take s.size) i1 (List.all_eq_true.2 fun v hv=>ho v (List.mem_of_mem_take hv)) hn.1
  obtain ⟨f2,r2,o2,g2⟩:=hs.ownRep (hc.drop s.size) i2 (List.all_eq_true.2 fun v hv=>ho v (List.mem_of_mem_drop hv)) hn.2.1
  refine ⟨f1++f2,⟨_,_,f1,f2,(List.take_append_drop s.size us).symm,rfl,r1,r2⟩,⟨?_,fun b hb=>(List.mem_append.1 hb).elim (o1.2 b) (o2.2 b)⟩,fun b hb=>?_⟩
  ·rw [List.nodup_append]
   refine ⟨o1.1,o2.1,fun b hb b' hb' e=>?_⟩
   subst e
   obtain ⟨k,hk,h1⟩:=g1 b hb
   obtain ⟨k',hk',h2⟩:=g2 b hb'
   exact hn.2.2 k hk k' hk' (holds_inj hs h1 h2)
  ·rw [hsplit]
   rcases List.mem_append.1 hb with hb|hb
   ·obtain ⟨k,hk,h1⟩:=g1 b hb; exact ⟨k,List.mem_append.2 (.inl hk),h1⟩
   ·obtain ⟨k,hk,h1⟩:=g2 b hb; exact ⟨k,List.mem_append.2 (.inr hk),h1⟩
 | .int,n,_,[],hc,rfl,_,_=>hc.elim
 | .bool,n,_,[],hc,rfl,_,_=>hc.elim
 | .str,n,_,[],hc,rfl,_,_=>hc.elim
 | .u8,n,_,[],hc,rfl,_,_=>hc.elim
 | .cst _,n,_,[],hc,rfl,_,_=>hc.elim
 | .slice s,l,cs,[],hc,hi,_,_=>by obtain ⟨v,e,hs⟩:=hi; subst e; exact hc.elim
 | .ext e s,x,cs,[],hc,hi,_,_=>by rcases hi with rfl|⟨rfl,rfl⟩<;>exact hc.elim
 | .int,n,_,_ :: _ :: _,hc,rfl,_,_=>hc.2.elim
 | .bool,n,_,_ :: _ :: _,hc,rfl,_,_=>hc.2.elim
 | .str,n,_,_ :: _ :: _,hc,rfl,_,_=>hc.2.elim
 | .u8,n,_,_ :: _ :: _,hc,rfl,_,_=>hc.2.elim
 | .cst _,n,_,_ :: _ :: _,hc,rfl,_,_=>hc.2.elim
 | .slice s,l,cs,_ :: _ :: _,hc,hi,_,_=>by obtain ⟨v,e,hs⟩:=hi; subst e; exact hc.2.elim
 | .ext e s,x,cs,_ :: _ :: _,hc,hi,_,_=>by rcases hi with rfl|⟨rfl,rfl⟩<;>exact hc.2.elim
theorem frzU_is {ks:List Nat}:∀ {lm:Nat->Option Blk} {j:Nat} {B:Blk},look (frzU lm ks) j=some B->∃ t v l,B=.froz t v l:=by
 induction ks with
 | nil=>intro lm j B h; cases h
 | cons k ks ih =>
  intro lm j B h
  simp only [frzU] at h
  split at h
  ·rename_i B0 hB0
   rw [look_app,Option.or_eq_some_iff] at h
   rcases h with h|⟨_,h⟩
   ·exact ih h
   ·simp only [look] at h
    split at h
    ·injection h with h
     subst h
     obtain ⟨B1,_,hf⟩:=Option.bind_eq_some_iff.1 hB0
     cases B1<;>first|(injection hf with hf; exact ⟨_,_,_,hf.symm⟩)|cases hf
    ·cases h
  ·exact ih h
theorem frzU_has {ks:List Nat}:∀ {lm:Nat->Option Blk} {k:Nat} {B0 B:Blk},k ∈ ks->lm k=some B0->B0.fz=some B->∃ B',look (frzU lm ks) k=some B':=by
 induction ks with
 | nil=>intro lm k B0 B h; cases h
 | cons k' ks ih =>
  intro lm k B0 B hk hl hz
  simp only [frzU]
  by_cases hkk:k=k'
  ·subst hkk
   have e:(lm k).bind Blk.fz=some B:=by rw [hl]; exact hz
   rw [e]
   simp only [look_app,look_self]
   cases look (frzU (fun j=>if j=k then some B else lm j) ks) k with
   | none=>exact ⟨_,rfl⟩
   | some B'=>exact ⟨B',rfl⟩
  ·have hk':k ∈ ks:=(List.mem_cons.1 hk).resolve_left hkk
   split
   ·rename_i B1 hB1
    obtain ⟨B',hB'⟩:=ih (lm:=fun j=>if j=k' then some B1 else lm j) hk' (by rw [if_neg hkk]; exact hl) hz
    exact ⟨B',by rw [look_app,hB']; rfl⟩
   ·exact ih hk' hl hz
def Live (M:Mm) (k:Nat):Prop:=∃ B0 B,look M k=some B0/\B0.fz=some B
theorem frz_free (hs:Sim c σ Γ a w) {ks:List Nat} {k b:Nat} (hk:k ∈ ks) (hlv:Live σ.mem k) (hh:Holds σ Γ k b) {j:Nat} {B:Blk} (hj:look (frzU (look σ.mem) ks++σ.mem) j=some B):¬ B.mut Γ j b/\b ∉ B.ofp Γ j:=by
 have key:¬ (B.mut Γ j b\/b ∈ B.ofp Γ j):=by
  intro hb
  rw [look_app,Option.or_eq_some_iff] at hj
  rcases hj with hj|⟨hn,hj⟩
  ·obtain ⟨t,v,l,rfl⟩:=frzU_is hj
   rcases hb with hb|hb
   ·exact hb.elim
   ·simp [Blk.ofp] at hb
  ·have e:=holds_inj hs ⟨B,hj,hb⟩ hh
   subst e
   obtain ⟨B0,B1,h1,h2⟩:=hlv
   obtain ⟨B',hB'⟩:=frzU_has (lm:=look σ.mem) hk h1 h2
   rw [hn] at hB'
   cases hB'
 exact ⟨fun h=>key (.inl h),fun h=>key (.inr h)⟩
theorem ownC_live {k ver:Nat} (h:OwnC σ (.row k ver)=true):Live σ.mem k:=by
 simp only [OwnC,OwnL] at h
 split at h
 ·rename_i hk; exact ⟨_,_,hk,rfl⟩
 ·rename_i hk; exact ⟨_,_,hk,rfl⟩
 ·cases h
def ownV (lm:Nat->Option Blk) (vs:List AV):Bool:=vs.all (fun v=>(cellsOf v).all (OwnL lm)) && decide (vs.flatMap (fun v=>cellRows (cellsOf v))).Nodup
theorem ownL_congr {lm lm':Nat->Option Blk} {v:AV} (h:∀ k ver,v=.row k ver->lm' k=lm k):OwnL lm' v=OwnL lm v:=by
 cases v with
 | row k ver=>simp only [OwnL,h k ver rfl]
 | _=>rfl
theorem rows_cells {v:AV} (hok:v.ok=true):cellRows (cellsOf v)=v.rows:=by
 cases v with
 | junk=>cases hok
 | tup _=>cases hok
 | agg cs=>rfl
 | _=>simp [cellsOf,cellRows,AV.rows]
theorem ownV_congr {lm lm':Nat->Option Blk} {vs:List AV} (hok:vs.all AV.ok=true) (h:∀ k ∈ vs.flatMap AV.rows,lm' k=lm k):ownV lm' vs=ownV lm vs:=by
 unfold ownV
 congr 1
 rw [Bool.eq_iff_iff,List.all_eq_true,List.all_eq_true]
 have key:∀ v ∈ vs,∀ cv ∈ cellsOf v,OwnL lm' cv=OwnL lm cv:=fun v hv cv hcv=>ownL_congr fun k ver e=>h k (List.mem_flatMap.2 ⟨v,hv,by
  rw [<-rows_cells (List.all_eq_true.1 hok v hv)]; exact mem_cellRows (e ▸ hcv)⟩)
 constructor
 ·intro hh v hv
  rw [List.all_eq_true]; intro cv hcv
  rw [<-key v hv cv hcv]; exact List.all_eq_true.1 (hh v hv) cv hcv
 ·intro hh v hv
  rw [List.all_eq_true]; intro cv hcv
  rw [key v hv cv hcv]; exact List.all_eq_true.1 (hh v hv) cv hcv
theorem frzU_data {ks:List Nat}:∀ {lm:Nat->Option Blk} {j:Nat} {B:Blk},look (frzU lm ks) j=some B->∃ B0,lm j=some B0/\((∃ t l,B0=.mine t l)\/∀ ver,B.data ver=B0.data ver):=by
 induction ks with
 | nil=>intro lm j B h; cases h
 | cons k ks ih =>
  intro lm j B h
  simp only [frzU] at h
  split at h
  ·rename_i B1 hB1
   obtain ⟨B0,hl,hf⟩:=Option.bind_eq_some_iff.1 hB1
   have hd:(∃ t l,B0=.mine t l)\/∀ ver,B1.data ver=B0.data ver:=by
    cases B0 with
    | row e t v o l=>injection hf with hf; subst hf; exact .inr fun ver=>rfl
    | odat t l=>injection hf with hf; subst hf; exact .inr fun ver=>by simp [Blk.data,eq_comm]
    | mine t l=>exact .inl ⟨t,l,rfl⟩
    | _=>cases hf
   have hnm:∀ t l,B1 ≠ .mine t l:=by
    intro t l e
    cases B0<;>first|(injection hf with hf; rw [<-hf] at e; cases e)|cases hf
   rw [look_app,Option.or_eq_some_iff] at h
   rcases h with h|⟨_,h⟩
   ·obtain ⟨B2,h1,h2⟩:=ih h
    by_cases hj:j=k
    ·subst hj
     rw [if_pos rfl] at h1
     injection h1 with h1
     subst h1
     refine ⟨B0,hl,hd.imp id fun hd ver=>?_⟩
     rcases h2 with ⟨t,l,e⟩|h2
     ·exact absurd e (hnm t l)
     ·exact (h2 ver).trans (hd ver)
    ·rw [if_neg hj] at h1; exact ⟨B2,h1,h2⟩
   ·simp only [look] at h
    split at h
    ·rename_i hj
     injection h with h
     subst h hj
     exact ⟨B0,hl,hd⟩
    ·cases h
  ·exact ih h
theorem data_lmF (lm:Nat->Option Blk) (ks:List Nat) (ap:Bool) (v:AV) (hn:∀ k ver t l,v=.row k ver->lm k ≠ some (.mine t l)):v.data (lmF lm ks ap)=v.data lm:=by
 cases v with
 | row k ver =>
  unfold lmF
  cases ap with
  | true=>rfl
  | false =>
   simp only [Bool.false_eq_true,if_false,AV.data]
   cases hk:look (frzU lm ks) k with
   | none=>rfl
   | some B =>
    obtain ⟨B0,h1,h2⟩:=frzU_data hk
    rcases h2 with ⟨t,l,rfl⟩|h2
    ·exact absurd h1 (hn k ver t l rfl)
    ·simp only [Option.some_or,h1,Option.bind_some,h2]
 | _=>rfl
theorem own_nm {lm:Nat->Option Blk} {v:AV} (h:OwnL lm v=true):∀ k ver t l,v=.row k ver->lm k ≠ some (.mine t l):=by
 rintro k ver t l rfl e
 simp only [OwnL,e] at h
 cases h
theorem Is_data {lm lm':Nat->Option Blk}:∀ {t:Ty} {x:t.den} {cs:List AV},(∀ v ∈ cs,v.data lm'=v.data lm)->Is lm t x cs->Is lm' t x cs
 | .int,_,_,_,h=>h
 | .bool,_,_,_,h=>h
 | .str,_,_,_,h=>h
 | .u8,_,_,_,h=>h
 | .cst _,_,_,_,h=>h
 | .ext _ _,_,_,_,h=>h
 | .slice a,l,cs,h,⟨v,e,hv⟩=>⟨v,e,hv.imp (fun hv=>(h v (by rw [e]; exact List.mem_cons_self)).trans hv) id⟩
 | .prod a b,x,cs,h,⟨h1,h2⟩=>⟨Is_data (fun v hv=>h v (List.mem_of_mem_take hv)) h1,Is_data (fun v hv=>h v (List.mem_of_mem_drop hv)) h2⟩
theorem IsV_data {lm lm':Nat->Option Blk} {d:Dat} {v:AV} (h:∀ u ∈ cellsOf v,u.data lm'=u.data lm) (hi:IsV lm d v):IsV lm' d v:=by
 cases v<;>exact ⟨hi.1,Is_data h hi.2⟩
theorem rowsOf_cons {t:Ty} {x:t.den} {l:List t.den} {cs:List Value} {css:List (List Value)} {f:List Nat} {fps:List (List Nat)} (h:t.rp.rep w cs x f) (h2:RowsOf t.rp w l css fps):RowsOf t.rp w (x :: l) (cs :: css) (f :: fps):=by
 obtain ⟨r1,r2,r3⟩:=h2
 refine ⟨by simpa using r1,by simpa using r2,fun i y hy=>?_⟩
 cases i with
 | zero=>simp at hy; subst hy; exact ⟨cs,f,rfl,rfl,h⟩
 | succ i=>simpa using r3 i y (by simpa using hy)
theorem ownV_cells (hs:Sim c σ Γ a w) {v:AV} {us:List Value} {t:Ty} {x:t.den} (hc:All2 (CRep c σ.mem Γ w) (cellsOf v) us) (hi2:Is (look σ.mem) t x (cellsOf v)) (ho:(cellsOf v).all (OwnL (look σ.mem))=true) (hn:(cellRows (cellsOf v)).Nodup) :
  ∃ fp,t.rp.rep w us x fp/\OwnFp c.base w fp/\∀ b ∈ fp,∃ k ∈ cellRows (cellsOf v),Holds σ Γ k b/\Live σ.mem k:=by
 obtain ⟨fp,h1,h2,h3⟩:=hs.ownRep hc hi2 ho hn
 refine ⟨fp,h1,h2,fun b hb=>?_⟩
 obtain ⟨k,hk,hh⟩:=h3 b hb
 obtain ⟨cv,hcv,hkv⟩:=List.mem_flatMap.1 hk
 have hcv':∃ ver,cv=.row k ver:=by
  cases cv with
  | row k' ver=>simp at hkv; subst hkv; exact ⟨ver,rfl⟩
  | _=>simp at hkv
 obtain ⟨ver,rfl⟩:=hcv'
 exact ⟨k,hk,hh,ownC_live (List.all_eq_true.1 ho _ hcv)⟩
theorem ownV_one (hs:Sim c σ Γ a w) {v:AV} {u:Value} {t:Ty} {x:t.den} (hv:ARep c σ.mem Γ w v u) (hok:v.ok=true) (hi:IsV (look σ.mem) ⟨t,x⟩ v) (ho:(cellsOf v).all (OwnL (look σ.mem))=true) (hn:(cellRows (cellsOf v)).Nodup) :
  ∃ fp,t.rp.rep w u.cells.toList x fp/\OwnFp c.base w fp/\∀ b ∈ fp,∃ k ∈ cellRows (cellsOf v),Holds σ Γ k b/\Live σ.mem k:=by
 have hc:=(arep_vrep hv).cells hok
 have hi2:Is (look σ.mem) t x (cellsOf v):=by
  cases v with
  | junk=>cases hok
  | tup _=>cases hok
  | _=>exact hi.2
 exact ownV_cells hs hc hi2 ho hn
theorem take_list (hs:Sim c σ Γ a w) {t:Ty}:∀ {vs:List AV} {us:List Value} {l:List t.den},All2 (ARep c σ.mem Γ w) vs us->vs.all AV.ok=true->All2 (fun v x=>IsV (look σ.mem) ⟨t,x⟩ v) vs l->vs.all (fun v=>(cellsOf v).all (OwnL (look σ.mem)))=true->(vs.flatMap (fun v=>cellRows (cellsOf v))).Nodup →
  ∃ fps,RowsOf t.rp w l (us.map fun u=>u.cells.toList) fps/\OwnFp c.base w fps.flatten/\∀ b ∈ fps.flatten,∃ k ∈ vs.flatMap (fun v=>cellRows (cellsOf v)),Holds σ Γ k b/\Live σ.mem k
 | [],[],[],_,_,_,_,_=>⟨[],⟨rfl,rfl,fun i x h=>by simp at h⟩,ownFp_nil _ _,fun b hb=>by simp at hb⟩
 | v :: vs,u :: us,x :: l,⟨h1,h2⟩,hok,⟨h3,h4⟩,ho,hn=>by
  rw [List.all_cons,Bool.and_eq_true] at ho hok
  rw [List.flatMap_cons,List.nodup_append] at hn
  obtain ⟨fps,r1,r2,r3⟩:=take_list hs h2 hok.2 h4 ho.2 hn.2.1
  obtain ⟨fp,g1,g2,g3⟩:=ownV_one hs h1 hok.1 h3 ho.1 hn.1
  refine ⟨fp :: fps,rowsOf_cons g1 r1,⟨?_,fun b hb=>?_⟩,fun b hb=>?_⟩
  ·rw [List.flatten_cons,List.nodup_append]
   refine ⟨g2.1,r2.1,fun b hb b' hb' e=>?_⟩
   subst e
   obtain ⟨k,hk,hh,_⟩:=g3 b hb
   obtain ⟨k',hk',hh',_⟩:=r3 b hb'
   exact hn.2.2 k hk k' hk' (holds_inj hs hh hh')
  ·rw [List.flatten_cons,List.mem_append] at hb
   exact hb.elim (g2.2 b) (r2.2 b)
  ·rw [List.flatten_cons,List.mem_append] at hb
   rw [List.flatMap_cons]
   rcases hb with hb|hb
   ·obtain ⟨k,hk,hh⟩:=g3 b hb; exact ⟨k,List.mem_append.2 (.inl hk),hh⟩
   ·obtain ⟨k,hk,hh⟩:=r3 b hb; exact ⟨k,List.mem_append.2 (.inr hk),hh⟩
 | [],_ :: _,_,h,_,_,_,_=>h.elim
 | _ :: _,[],_,h,_,_,_,_=>h.elim
 | [],[],_ :: _,_,_,h,_,_=>h.elim
 | _ :: _,_ :: _,[],_,_,h,_,_=>h.elim
end
end Go.Proofs.YtaflkgjckmfkoaaGreat.DW

namespace Go.Proofs.YtaflkgjckmfkoaaGreat.DW
open Go.RowKit
theorem fold_set (off:Nat):∀ (us:List Value) (k:Nat) (C:Array Value),off+k+us.length<=C.size →
  ∀ R,(us.zipIdx k).foldl (fun cs (x:Value × Nat)=>cs.setIfInBounds (off+x.2) x.1) C=R->R.size=C.size/\(∀ j v,us[j]? = some v->R[off+k+j]? = some v)/\∀ i,i < off+k\/off+k+us.length<=i->R[i]? = C[i]?
 | [],k,C,h,R,hR=>by
  subst hR
  exact ⟨rfl,fun j v hj=>by simp at hj,fun i _=>rfl⟩
 | u :: us,k,C,h,R,hR=>by
  simp only [List.zipIdx_cons,List.foldl_cons] at hR
  simp only [List.length_cons] at h
  obtain ⟨h1,h2,h3⟩:=fold_set off us (k+1) (C.setIfInBounds (off+k) u) (by simp; omega) R hR
  refine ⟨by simpa using h1,fun j v hj=>?_,fun i hi=>?_⟩
  ·cases j with
   | zero =>
    simp at hj; subst hj
    rw [h3 _ (.inl (by omega))]
    simp only [Nat.add_zero]
    rw [Array.getElem?_setIfInBounds_self_of_lt (by omega)]
   | succ j =>
    have:=h2 j v (by simpa using hj)
    rw [show off+k+(j+1)=off+(k+1)+j by omega]; exact this
  ·simp only [List.length_cons] at hi
   rw [h3 i (by omega),Array.getElem?_setIfInBounds_ne (by omega)]
theorem fold_set' (off:Nat) (v:Value) (C:Array Value) (h:off+v.cells.size<=C.size) :
  v.cells.zipIdx.foldl (fun cs (x:Value × Nat)=>cs.setIfInBounds (off+x.2) x.1) C=(C.toList.take off++v.cells.toList++C.toList.drop (off+v.cells.toList.length)).toArray:=by
 rw [<-Array.foldl_toList,Array.toList_zipIdx]
 obtain ⟨h1,h2,h3⟩:=fold_set off v.cells.toList 0 C (by simpa using h) _ rfl
 apply Array.toList_inj.1
 rw [List.toList_toArray]
 refine list_put (by simpa using h) (by simpa using h1) (fun j x hj=>?_) (fun i hi=>?_)
 ·rw [Array.getElem?_toList]; exact h2 j x hj
 ·rw [Array.getElem?_toList,Array.getElem?_toList]; exact h3 i (by simpa using hi)
theorem fill_cons (place:Nat->Option (Nat × Nat)) (C:Array Value) (i:Nat) (v:Value) (rest:List (Nat × Value)) (off size:Nat) (hp:place i=some (off,size)) (hs:v.cells.size=size) (hl:off+size<=C.size) :
  Instr.fill place C ((i,v) :: rest)=Instr.fill place (C.toList.take off++v.cells.toList++C.toList.drop (off+v.cells.toList.length)).toArray rest:=by
 rw [Instr.fill,hp]
 simp only
 rw [if_neg (by simp; omega),<-fold_set' off v C (by omega)]
noncomputable def lget (s:Ty) (d:Lst):Option (List s.den):=@dite _ (d.1=s) (Classical.propDecidable _) (fun h=>some (h ▸ d.2)) (fun _=>none)
theorem lget_same (s:Ty) (l:List s.den):lget s ⟨s,l⟩=some l:=by unfold lget; rw [dif_pos rfl]
theorem lget_eq {s:Ty} {d:Lst} {l:List s.den} (h:lget s d=some l):d=⟨s,l⟩:=by
 unfold lget at h
 split at h
 ·rename_i e
  obtain ⟨t,m⟩:=d
  subst e
  injection h with h
  subst h
  rfl
 ·cases h
noncomputable def rdS (lm:Nat->Option Blk) (a:Ty) (v:AV):Option (List a.den) :=
 match v with
 | .sc (.slice none 0 0)=>some []
 | v=>(v.data lm).bind (lget a)
def rdI:List AV->Option Int
 | [.sc (.int .i64 n)]=>some n
 | _=>none
def rdB:List AV->Option Bool
 | [.sc (.bool n)]=>some n
 | _=>none
def rdT:List AV->Option ByteArray
 | [.sc (.string n)]=>some n
 | _=>none
def rdU:List AV->Option Int
 | [.sc (.int .u8 n)]=>some n
 | _=>none
noncomputable def rdX (lm:Nat->Option Blk) (a:Ty):List AV->Option (List a.den)
 | [v]=>rdS lm a v
 | _=>none
noncomputable def rdC (lm:Nat->Option Blk):(t:Ty)->List AV->Option t.den
 | .int,cs=>rdI cs
 | .bool,cs=>rdB cs
 | .str,cs=>rdT cs
 | .u8,cs=>rdU cs
 | .slice a,cs=>rdX lm a cs
 | .prod a b,cs=>match rdC lm a (cs.take a.size),rdC lm b (cs.drop a.size) with
  | some x,some y=>some (x,y)
  | _,_=>none
 | .cst _,_=>none
 | .ext _ _,_=>none
noncomputable def rdV (lm:Nat->Option Blk) (t:Ty) (v:AV):Option t.den :=
 match v with
 | .agg cs=>if t.isAgg=true then rdC lm t cs else none
 | v=>if t.isAgg=true then none else rdC lm t [v]
noncomputable def rdL (lm:Nat->Option Blk) (t:Ty):List AV->Option (List t.den)
 | []=>some []
 | v :: vs=>match rdV lm t v,rdL lm t vs with
  | some x,some l=>some (x :: l)
  | _,_=>none
theorem rdS_is {lm:Nat->Option Blk} {a:Ty} {v:AV} {l:List a.den} (h:rdS lm a v=some l):IsS lm a l v:=by
 unfold rdS at h
 split at h
 ·injection h with h; subst h; exact .inr ⟨rfl,rfl⟩
 ·cases hd:v.data lm with
  | none=>rw [hd] at h; cases h
  | some d=>rw [hd] at h; exact .inl (hd.trans (congrArg some (lget_eq h)))
theorem rdC_is {lm:Nat->Option Blk}:∀ {t:Ty} {cs:List AV} {x:t.den},rdC lm t cs=some x->Is lm t x cs:=by
 intro t
 induction t with
 | prod a b iha ihb =>
  intro cs x h
  simp only [rdC] at h
  split at h
  ·rename_i x1 y1 h1 h2; injection h with h; subst h; exact ⟨iha h1,ihb h2⟩
  ·cases h
 | slice a iha =>
  intro cs x h
  simp only [rdC,rdX] at h
  split at h
  ·exact ⟨_,rfl,rdS_is h⟩
  ·cases h
 | int=>intro cs x h; simp only [rdC,rdI] at h; split at h<;>first|(injection h with h; subst h; rfl)|cases h
 | bool=>intro cs x h; simp only [rdC,rdB] at h; split at h<;>first|(injection h with h; subst h; rfl)|cases h
 | str=>intro cs x h; simp only [rdC,rdT] at h; split at h<;>first|(injection h with h; subst h; rfl)|cases h
 | u8=>intro cs x h; simp only [rdC,rdU] at h; split at h<;>first|(injection h with h; subst h; rfl)|cases h
 | cst f=>intro cs x h; cases h
 | ext e a _=>intro cs x h; cases h
theorem rdV_is {lm:Nat->Option Blk} {t:Ty} {v:AV} {x:t.den} (h:rdV lm t v=some x):IsV lm ⟨t,x⟩ v:=by
 unfold rdV at h
 split at h
 ·split at h
  ·rename_i ha; exact ⟨ha,rdC_is h⟩
  ·cases h
 ·split at h
  ·cases h
  ·rename_i hv ha
   have ha':t.isAgg=false:=by simpa using ha
   cases v with
   | agg cs=>exact absurd rfl (hv cs)
   | _=>exact ⟨ha',rdC_is h⟩
theorem rdL_is {lm:Nat->Option Blk} {t:Ty}:∀ {vs:List AV} {l:List t.den},rdL lm t vs=some l->All2 (fun v x=>IsV lm ⟨t,x⟩ v) vs l
 | [],l,h=>by injection h with h; subst h; trivial
 | v :: vs,l,h=>by
  simp only [rdL] at h
  split at h
  ·rename_i x m h1 h2; injection h with h; subst h; exact ⟨rdV_is h1,rdL_is h2⟩
  ·cases h
def idx:Nat->List (Nat × Operand)->Bool
 | _,[]=>true
 | k,(i,_) :: ps=>i == k && idx (k+1) ps
theorem idx_range:∀ {ps:List (Nat × Operand)} {k:Nat},idx k ps=true->ps.map (·.1)=List.range' k ps.length
 | [],_,_=>rfl
 | (i,_) :: ps,k,h=>by
  simp only [idx,Bool.and_eq_true,beq_iff_eq] at h
  simp only [List.map_cons,List.length_cons,List.range'_succ,h.1,idx_range h.2]
def bts (P:Program) (e:TypeId):Option Nat:=(P.info? e).map (·.bytes)
section
variable (P:Program) (T:TypeId->Option Ty) (lt:Nat->Option AV) (lm:Nat->Option Blk) (nx:Nat) (K:Eff->Prop)
def aBuildSlice (ty:TypeId) (len:Nat) (parts:Array (Nat × Operand)):Prop :=
 match P.underlying ty with
 | some (.slice e) =>
  match T e,evs lt (parts.toList.map (·.2)) with
  | some t,some vs =>
   idx 0 parts.toList=true/\parts.toList.length=len/\len * t.size<=16777216/\vs.all AV.ok=true ∧
   match rdL (lmF lm (vs.flatMap AV.rows) false) t vs with
   | some l=>K ⟨.row nx 0,(nx,.row e t 0 (t.flat || ownV lm vs) l) :: frzU lm (vs.flatMap AV.rows),vs.flatMap AV.rows⟩
   | none=>False
  | _,_=>False
 | _=>False
def aAppend (ty:TypeId) (x y:Operand):Prop :=
 match P.underlying ty with
 | some (.slice e) =>
  match T e,bts P e,ev lt x,ev lt y with
  | some t,some i,some (.row k ver),some v =>
   match lm k,v.data lm with
   | some (.row e' s vv l0 l),some d =>
    match lget s d with
    | some m=>e'=e/\vv=ver/\k ∉ v.rows/\s.size=t.size/\(l.length+m.length) * i<=140737488355328/\l.length+m.length<=9223372036854775807 ∧
     K ⟨.row k (ver+1),(k,.row e s (ver+1) (s.flat || (!s.flat && l0 && OwnL lm v)) (l++m)) :: (if (!s.flat && l0 && OwnL lm v)=true then frzU lm v.rows else []),k :: v.rows⟩
    | none=>False
   | _,_=>False
  | some t,some i,some (.sc (.slice none 0 0)),some v =>
   match v.data lm with
   | some d =>
    match lget t d with
    | some m=>m.length * i<=140737488355328/\m.length<=9223372036854775807/\K ⟨.row nx 0,(nx,.row e t 0 (t.flat || (!t.flat && OwnL lm v)) m) :: (if (!t.flat && OwnL lm v)=true then frzU lm v.rows else []),v.rows⟩
    | none=>False
   | none=>False
  | _,_,_,_=>False
 | _=>False
def aMakeSlice (ty:TypeId) (x y:Operand):Prop :=
 match P.underlying ty with
 | some (.slice e) =>
  match T e,bts P e,ev lt x,ev lt y with
  | some t,some i,some (.sc (.int .i64 n)),some (.sc (.int .i64 m))=>0<=n/\n<=m/\(i:Int) * m<=281474976710656/\K ⟨.row nx 0,[(nx,.row e t 0 true (List.replicate n.toNat t.zero))],[]⟩
  | _,_,_,_=>False
 | _=>False
def evo (x:Option Operand) (z:Int):Option Int :=
 match x with
 | none=>some z
 | some x=>match ev lt x with
  | some (.sc (.int .i64 n))=>some n
  | _=>none
def SlcW (s:Ty) (l:List s.den) (a b:Int):AV->Prop
 | .row k ver=>K ⟨.sl s ((l.take b.toNat).drop a.toNat),frzU lm [k],[k]⟩\/(a=0/\∃ (e:TypeId) (o:Bool),lm k=some (.row e s ver o l)/\K ⟨.row k (ver+1),[(k,.row e s (ver+1) s.flat (l.take b.toNat))],[k]⟩)
 | v=>K ⟨.sl s ((l.take b.toNat).drop a.toNat),frzU lm v.rows,v.rows⟩
def aSlice (ty:TypeId) (x:Operand) (lo hi mx:Option Operand):Prop :=
 match P.underlying ty,ev lt x with
 | some (.slice e),some v =>
  match T e,v.data lm with
  | some t,some ⟨s,l⟩ =>
   match evo lt lo 0,evo lt hi l.length with
   | some a,some b=>mx=none/\t.size=s.size/\0<=a/\a<=b/\b<=l.length/\SlcW lm K s l a b v
   | _,_=>False
  | _,_=>False
 | _,_=>False
def aStoreRow (ty:TypeId) (x y:Operand):Prop :=
 match T ty,ev lt x,ev lt y with
 | some t,some (.elm k ver i off),some v =>
  match lm k with
  | some (.row e s vv oo l)=>off=0/\vv=ver/\s.size=t.size/\i < l.length/\v.ok=true/\k ∉ v.rows ∧
   match rdC (lmF lm v.rows false) s (cellsOf v) with
   | some x'=>K ⟨.junk,(k,.row e s ver (s.flat || (oo && ownV lm [v])) (l.set i x')) :: frzU lm v.rows,k :: v.rows⟩
   | none=>False
  | _=>False
 | _,_,_=>False
def aMin (xs:Array Operand):Prop :=
 match evs lt xs.toList with
 | some [.sc (.int .i64 a),.sc (.int .i64 b)]=>K (.val (.sc (.int .i64 (min a b))))
 | _=>False
def aMax (xs:Array Operand):Prop :=
 match evs lt xs.toList with
 | some [.sc (.int .i64 a),.sc (.int .i64 b)]=>K (.val (.sc (.int .i64 (max a b))))
 | _=>False
end
section
variable {P:Program} {T:TypeId->Option Ty} {c:Cx} {lt:Nat->Option AV} {lm:Nat->Option Blk} {nx:Nat} {K:Eff->Prop} {o:Oper}
theorem evs_all {σ:St} {Γ:Asg} {a:Act} {w:World} (hs:Sim c σ Γ a w) (hl:∀ t ∈ opnds o,look σ.tmps t=lt t) {xs:List Operand} {vs:List AV} (hx:∀ x ∈ xs,x ∈ o.op.operands.toList) (h:evs lt xs=some vs) (hok:vs.all AV.ok=true):All2 (fun v x=>ARep c σ.mem Γ w v (a.eval x)) vs xs :=
 evs_rep hs (fun x hxm t e=>hl t (mem_opnds (hx x hxm) e)) h hok
def plF (T:TypeId->Option Ty) (f:Field):Nat × Nat:=(f.offset,((T f.type).map Ty.size).getD 0)
theorem fillA_ok (hT:TabOK P T) {fs:Array Field} {σ:St} {Γ:Asg} {a:Act} {w:World} (hs:Sim c σ Γ a w):∀ {parts:List (Nat × Operand)} {cs cs':List AV} {us:List Value},(∀ p ∈ parts,∀ t,p.2=.tmp t->look σ.tmps t=lt t) →
  fillA T lt fs cs parts=some cs'->All2 (CRep c σ.mem Γ w) cs us->∃ us':List Value,Instr.fill (fun i=>(fs.map (plF T))[i]?) us.toArray (parts.map fun p=>(p.1,a.eval p.2))=some us'.toArray/\All2 (CRep c σ.mem Γ w) cs' us'
 | [],cs,cs',us,_,h,hc=>by injection h with h; subst h; exact ⟨us,rfl,hc⟩
 | (i,x) :: parts,cs,cs',us,hl,h,hc=>by
  simp only [fillA] at h
  split at h
  ·rename_i fd v hfd hv
   split at h
   ·rename_i ft hft
    split at h
    ·rename_i hcond
     obtain ⟨hok,h1,h2⟩:=hcond
     have hr:=(ev_rep hs (hl (i,x) List.mem_cons_self) hv).cells hok
     have hlr:=hr.len
     have hlc:=hc.len
     obtain ⟨us',h3,h4⟩:=fillA_ok hT hs (fun p hp=>hl p (List.mem_cons_of_mem _ hp)) h (((hc.take fd.offset).app hr).app (hc.drop (fd.offset+(cellsOf v).length)))
     refine ⟨us',?_,h4⟩
     simp only [Array.length_toList] at hlr
     rw [List.map_cons,fill_cons _ _ _ _ _ fd.offset ft.size (by simp [plF,hfd,hft]) (by simp only; omega) (by simp; omega)]
     simp only [Array.length_toList,List.toList_toArray]
     rw [<-hlr]; exact h3
    ·cases h
   ·cases h
  ·cases h
theorem mapM_places (hT:TabOK P T) {w:World}:∀ (fs:List Field),fs.all (fun fd=>(T fd.type).isSome)=true →
  (fs.mapM fun (f:Field)=>(do pure (f.offset,<-sizeOf f.type):Sem (Nat × Nat))).run P w=.ok (fs.map (plF T)) w
 | [],_=>rfl
 | f :: fs,h=>by
  simp only [List.all_cons,Bool.and_eq_true] at h
  obtain ⟨ft,hft⟩:=Option.isSome_iff_exists.1 h.1
  have ih:=mapM_places hT (w:=w) fs h.2
  simp only [List.mapM_cons,Sem.run_bind,(hT _ _ hft).sizeOf,Result.andThen_ok,Sem.run_pure,ih,List.map_cons,plF,hft,Option.map_some,Option.getD_some]
theorem aBuild_ok (hT:TabOK P T) {ty:TypeId} {parts:Array (Nat × Operand)} (ho:o.op=.build ty parts) (h:aBuild P T lt K ty parts):∃ e,K e/\SOK P c lt lm nx o e:=by
 unfold aBuild at h
 split at h
 ·rename_i t fs ht hu
  obtain ⟨hall,h⟩:=h
  split at h
  ·rename_i cs hcs
   refine ⟨_,h,SOK.pure fun σ Γ a w hs hl _=>?_⟩
   have hz:=zcl_rep (c:=c) (M:=σ.mem) (Γ:=Γ) (w:=w) t
   obtain ⟨us',h1,h2⟩:=fillA_ok hT hs (fun p hp t' e=>hl t' (mem_opnds (x:=p.2) (by simp only [ho,Op.operands]; exact List.mem_map.2 ⟨p,hp,rfl⟩) e)) hcs hz
   refine ⟨.agg us'.toArray,?_,us',rfl,h2⟩
   have hm:=mapM_places hT (w:=w) fs.toList hall
   have hm2:(fs.mapM fun (f:Field)=>(do pure (f.offset,<-sizeOf f.type):Sem (Nat × Nat))).run P w=.ok (fs.map (plF T)) w:=by
    obtain ⟨l⟩:=fs
    rw [List.mapM_toArray,map_eq_pure_bind,Sem.run_bind,hm]
    simp
   have hz2:t.zv.cells=t.zc.toArray:=zv_cells t
   have h1':Instr.fill (fun i=>(fs.map (plF T))[i]?) t.zc.toArray ((parts.map fun x=>(x.1,a.eval x.2)).toList)=some us'.toArray:=by rw [Array.toList_map]; exact h1
   simp only [execOp,ho,Instr.build,Sem.run_bind,(hT _ _ ht).zero,Result.andThen_ok,run_underlying hu,hm2,hz2,h1',Sem.run_pure]
  ·exact h.elim
 ·exact h.elim
theorem frzU_none {ks:List Nat}:∀ {lm:Nat->Option Blk} {k:Nat},lm k=none->look (frzU lm ks) k=none:=by
 induction ks with
 | nil=>intros; rfl
 | cons j ks ih =>
  intro lm k h
  simp only [frzU]
  split
  ·rename_i B hB
   by_cases hkj:k=j
   ·subst hkj; rw [h] at hB; cases hB
   ·rw [look_app,ih (by simp only [if_neg hkj]; exact h),look_ne _ _ hkj]; rfl
  ·exact ih h
theorem fill_range {size:Nat} (hs:0 < size):∀ (us:List Value) (k:Nat) (C:Array Value),(∀ u ∈ us,u.cells.size=size)->C.size=(k+us.length) * size →
  Instr.fill (fun i=>some (i * size,size)) C ((us.zipIdx k).map fun x=>(x.2,x.1))=some (C.toList.take (k * size)++(us.map fun u=>u.cells.toList).flatten).toArray
 | [],k,C,_,hC=>by
  simp only [List.length_nil,Nat.add_zero] at hC
  simp only [List.zipIdx_nil,List.map_nil,Instr.fill,List.flatten_nil,List.append_nil]
  rw [List.take_of_length_le (by simp [hC])]
 | u :: us,k,C,hu,hC=>by
  have h1:=hu u List.mem_cons_self
  simp only [List.length_cons] at hC
  have e1:(k+(us.length+1)) * size=k * size+size+us.length * size:=by rw [Nat.add_mul,Nat.succ_mul]; omega
  rw [e1] at hC
  rw [List.zipIdx_cons,List.map_cons,fill_cons _ _ _ _ _ (k * size) size rfl h1 (by omega),fill_range hs us (k+1) _ (fun x hx=>hu x (List.mem_cons_of_mem _ hx))
   (by simp only [List.size_toArray,List.length_append,List.length_take,List.length_drop,Array.length_toList]; rw [Nat.add_mul,Nat.succ_mul]; omega)]
  congr 2
  have e2:(C.toList.take (k * size)++u.cells.toList++C.toList.drop (k * size+u.cells.toList.length)).take ((k+1) * size)=C.toList.take (k * size)++u.cells.toList:=by
   refine List.take_left' ?_
   simp only [List.length_append,List.length_take,Array.length_toList]
   rw [Nat.succ_mul]; omega
  rw [List.toList_toArray,e2,List.map_cons,List.flatten_cons,List.append_assoc]
theorem pk_cells {t:Ty} {u:Value} {cs:List Value} (h:pk t u cs) (h1:∀ v ∈ cs,v.oneCell'=true):u.cells.toList=cs:=by
 rcases h with ⟨_,rfl⟩|⟨_,rfl⟩
 ·rfl
 ·have:=h1 u (by simp)
  cases u<;>first|rfl|cases this
theorem all2_rows {t:Ty} {w:World} {G:Nat->Prop}:∀ {us:List Value} {l:List t.den},All2 (fun u x=>∃ fp,DRep w u ⟨t,x⟩ fp/\∀ b ∈ fp,G b) us l->∃ fps,RowsOf t.rp w l (us.map fun u=>u.cells.toList) fps/\∀ b ∈ fps.flatten,G b
 | [],[],_=>⟨[],⟨rfl,rfl,fun i x h=>by simp at h⟩,fun b hb=>by simp at hb⟩
 | u :: us,x :: l,⟨⟨fp,⟨cs,hp,hr⟩,hg⟩,h2⟩=>by
  obtain ⟨fps,⟨r1,r2,r3⟩,hgs⟩:=all2_rows h2
  refine ⟨fp :: fps,⟨by simpa using r1,by simpa using r2,fun i y hy=>?_⟩,fun b hb=>?_⟩
  ·cases i with
   | zero =>
    simp at hy; subst hy
    exact ⟨cs,fp,by simp [pk_cells hp (t.rp.one hr)],rfl,hr⟩
   | succ i=>simpa using r3 i y (by simpa using hy)
  ·rw [List.flatten_cons,List.mem_append] at hb
   exact hb.elim (hg b) (hgs b)
 | [],_ :: _,h=>h.elim
 | _ :: _,[],h=>h.elim
theorem all2_map {α β γ:Type} {R:α->β->Prop} {R':α->γ->Prop} {f:β->γ}:∀ {l:List α} {m:List β},(∀ a b,R a b->R' a (f b))->All2 R l m->All2 R' l (m.map f)
 | [],[],_,_=>trivial
 | _ :: _,_ :: _,h,⟨h1,h2⟩=>⟨h _ _ h1,all2_map h h2⟩
 | [],_ :: _,_,h=>h.elim
 | _ :: _,[],_,h=>h.elim
theorem all2_join {α β γ:Type} {R:α->β->Prop} {R':α->γ->Prop} {Q:β->γ->Prop}:∀ {l:List α} {m:List β} {n:List γ},(∀ a b c,a ∈ l->R a b->R' a c->Q b c)->All2 R l m->All2 R' l n->All2 Q m n
 | [],[],[],_,_,_=>trivial
 | a :: _,b :: _,c :: _,h,⟨h1,h2⟩,⟨h3,h4⟩=>⟨h _ _ _ List.mem_cons_self h1 h3,all2_join (fun a b c ha=>h a b c (List.mem_cons_of_mem _ ha)) h2 h4⟩
 | [],_ :: _,_,_,h,_=>h.elim
 | _ :: _,[],_,_,h,_=>h.elim
 | [],[],_ :: _,_,_,h=>h.elim
 | _ :: _,_ :: _,[],_,_,h=>h.elim
theorem flat_rows {t:Ty} {w:World} {l:List t.den} {css:List (List Value)} {fps:List (List Nat)} (hf:t.flat=true) (h:RowsOf t.rp w l css fps):fps.flatten=[]:=by
 refine List.flatten_eq_nil_iff.2 fun f hfm=>?_
 obtain ⟨i,hi,rfl⟩:=List.getElem_of_mem hfm
 obtain ⟨cs,f,_,h2,h3⟩:=h.2.2 i (l[i]'(by have:=h.2.1; omega)) (List.getElem?_eq_getElem (by have:=h.2.1; omega))
 rw [List.getElem?_eq_getElem hi] at h2
 injection h2 with h2
 rw [h2]; exact flat_rep hf h3
theorem aBuildSlice_ok (hT:TabOK P T) (hnx:∀ k,nx<=k->lm k=none) {ty:TypeId} {len:Nat} {parts:Array (Nat × Operand)} (ho:o.op=.buildSlice ty len parts) (h:aBuildSlice P T lt lm nx K ty len parts):∃ e,K e/\SOK P c lt lm nx o e:=by
 unfold aBuildSlice at h
 split at h
 ·rename_i e hu
  split at h
  ·rename_i t vs ht hvs
   obtain ⟨hix0,hixl,hlen,hok,h⟩:=h
   split at h
   rotate_left
   ·exact h.elim
   rename_i l hl3
   have hl2:=rdL_is hl3
   have hK:=h
   have hix:parts.toList.map (·.1)=List.range len:=by rw [idx_range hix0,hixl,List.range_eq_range']
   refine ⟨_,hK,fun p hp=>?_,fun σ Γ a w hs hl hm hn hd K' Q hK'=>?_⟩
   ·rcases List.mem_cons.1 hp with rfl|hp
    ·exact .inl (Nat.le_refl _)
    ·exact .inr (frzU_mem hp)
   have hnone:look σ.mem nx=none:=by
    by_cases hin:nx ∈ vs.flatMap AV.rows
    ·rw [hm nx hin]; exact hnx nx (Nat.le_refl _)
    ·exact hn (nx,_) List.mem_cons_self hin
   have hf':=hs.frz (ks:=vs.flatMap AV.rows)
   have hcongr:frzU (look σ.mem) (vs.flatMap AV.rows)=frzU lm (vs.flatMap AV.rows):=frzU_congr fun k hk=>hm k hk
   rw [hcongr] at hf'
   have hrows:∀ v ∈ vs,∀ k ∈ v.rows,k ∈ vs.flatMap AV.rows:=fun v hv k hk=>List.mem_flatMap.2 ⟨v,hv,hk⟩
   have hv:=evs_all hf' hl (xs:=parts.toList.map (·.2)) (fun x hx=>by
    obtain ⟨p,hp,rfl⟩:=List.mem_map.1 hx
    simp only [ho,Op.operands]; exact List.mem_map.2 ⟨p,hp,rfl⟩) hvs hok
   have hv2:=all2_map (f:=a.eval) (R':=fun v u=>ARep c (frzU lm (vs.flatMap AV.rows)++σ.mem) Γ w v u) (fun _ _ h=>h) hv
   have hdr:All2 (fun u x=>∃ fp,DRep w u ⟨t,x⟩ fp/\∀ b ∈ fp,Gd c (frzU lm (vs.flatMap AV.rows)++σ.mem) Γ b) ((parts.toList.map (·.2)).map a.eval) l:=by
    refine all2_join (fun v u x hvm hvr hi=>?_) hv2 hl2
    have hi:IsV (fun j=>(look (frzU lm (vs.flatMap AV.rows)) j).or (lm j)) ⟨t,x⟩ v:=hi
    obtain ⟨fp,h1,_,h3⟩:=hf'.isVRep hvr (IsV_congr (fun k hk=>by rw [look_app,hm k (hrows v hvm k hk)]) hi)
    refine ⟨fp,h1,h3 fun k hk e t v' o' l hrow=>?_⟩
    rw [<-hcongr] at hrow
    exact (frz_no hrow).1 (hrows v hvm k hk)
   have hcore:∃ fps,RowsOf t.rp w l (((parts.toList.map (·.2)).map a.eval).map fun u=>u.cells.toList) fps/\(∀ b ∈ fps.flatten,Gd c (frzU lm (vs.flatMap AV.rows)++σ.mem) Γ b) ∧
     ((t.flat || ownV lm vs)=true->OwnFp c.base w fps.flatten/\∀ b ∈ fps.flatten,∀ j B,look (frzU lm (vs.flatMap AV.rows)++σ.mem) j=some B->b ∉ B.ofp Γ j):=by
    by_cases hov:ownV lm vs=true
    ·have hv0:=evs_all hs hl (xs:=parts.toList.map (·.2)) (fun x hx=>by
      obtain ⟨p,hp,rfl⟩:=List.mem_map.1 hx
      simp only [ho,Op.operands]; exact List.mem_map.2 ⟨p,hp,rfl⟩) hvs hok
     have hv1:=all2_map (f:=a.eval) (R':=fun v u=>ARep c σ.mem Γ w v u) (fun _ _ h=>h) hv0
     have hovL:∀ v ∈ vs,∀ u ∈ cellsOf v,OwnL lm u=true:=by
      simp only [ownV,Bool.and_eq_true] at hov
      exact fun v hv u hu=>List.all_eq_true.1 (List.all_eq_true.1 hov.1 v hv) u hu
     rw [<-ownV_congr hok (fun k hk=>hm k hk)] at hov
     have hov2:=hov
     simp only [ownV,Bool.and_eq_true,decide_eq_true_eq] at hov2
     have hi1:All2 (fun v x=>IsV (look σ.mem) ⟨t,x⟩ v) vs l:=hl2.mono fun v x hv hi=>IsV_congr (fun k hk=>hm k (hrows v hv k hk)) (IsV_data (fun u hu=>(data_lmF lm _ false u (own_nm (hovL v hv u hu))).symm) hi)
     obtain ⟨fps,r1,r2,r3⟩:=take_list hs hv1 hok hi1 hov2.1 hov2.2
     have hfree:∀ b ∈ fps.flatten,∀ j B,look (frzU lm (vs.flatMap AV.rows)++σ.mem) j=some B->¬ B.mut Γ j b/\b ∉ B.ofp Γ j:=by
      intro b hb j B hj
      obtain ⟨k,hk,hh,hlv⟩:=r3 b hb
      obtain ⟨v,hv,hkv⟩:=List.mem_flatMap.1 hk
      rw [rows_cells (List.all_eq_true.1 hok v hv)] at hkv
      rw [<-hcongr] at hj
      exact frz_free hs (hrows v hv k hkv) hlv hh hj
     exact ⟨fps,r1,fun b hb=>⟨.inr (r2.2 b hb).1,fun ⟨j,B,hj,hmu⟩=>(hfree b hb j B hj).1 hmu⟩,fun _=>⟨r2,fun b hb j B hj=>(hfree b hb j B hj).2⟩⟩
    ·obtain ⟨fps,hrw,hgd⟩:=all2_rows hdr
     refine ⟨fps,hrw,hgd,fun hfl=>?_⟩
     have hfl':t.flat=true:=by simpa [hov] using hfl
     rw [flat_rows hfl' hrw]; exact ⟨ownFp_nil _ _,fun b hb=>by cases hb⟩
   obtain ⟨fps,hrw,hgd,hown⟩:=hcore
   have hll:l.length=len:=by
    have h1:=hdr.len
    have h2:=congrArg List.length hix
    simp at h1 h2; omega
   have hp0:=t.pos
   have hszu:∀ u ∈ (parts.toList.map (·.2)).map a.eval,u.cells.size=t.size:=by
    intro u hu
    have:=hrw.len u.cells.toList (List.mem_map.2 ⟨u,hu,rfl⟩)
    rw [t.rp_size] at this; simpa using this
   have hrun:(execOp a.eval o).run P w=.ok (.value (.slice (some ⟨w.heap.size,0,none⟩) len len)) (w.alloc (.cells (((parts.toList.map (·.2)).map a.eval).map fun u=>u.cells.toList).flatten.toArray e)):=by
    have hfill:=fill_range (size:=t.size) (by rw [<-t.rp_size]; exact hp0) ((parts.toList.map (·.2)).map a.eval) 0 ((Array.range (len * t.size)).map (t.zv.cells[· % t.zv.cells.size]!)) hszu (by
     have h2:=congrArg List.length hix
     simp at h2; simp [h2])
    have hparts:(((parts.toList.map (·.2)).map a.eval).zipIdx 0).map (fun x=>(x.2,x.1))=(parts.map fun x=>(x.1,a.eval x.2)).toList:=by
     rw [Array.toList_map]
     apply List.ext_getElem?
     intro i
     rw [List.getElem?_map,List.getElem?_zipIdx,List.getElem?_map,List.getElem?_map,List.getElem?_map]
     cases hpi:parts.toList[i]? with
     | none=>rfl
     | some p =>
      have h2:(parts.toList.map (·.1))[i]? = some p.1:=by rw [List.getElem?_map,hpi]; rfl
      rw [hix] at h2
      have h3:=List.getElem?_eq_some_iff.1 h2
      obtain ⟨h3,h4⟩:=h3
      rw [List.getElem_range] at h4
      simp [h4]
    rw [hparts] at hfill
    simp only [Nat.zero_mul,List.take_zero,List.nil_append] at hfill
    have hsz:=(hT e t ht).sizeOf
    have hzv:=(hT e t ht).zero
    by_cases h0:len * t.size=0
    ·have hr0:∀ f:Nat->Value,(Array.range (len * t.size)).map f=#[]:=fun f=>Array.eq_empty_of_size_eq_zero (by simp only [Array.size_map,Array.size_range]; exact h0)
     have h24:¬ len * t.size > 2 ^ 24:=by omega
     rw [hr0] at hfill
     simp only [execOp,ho,Instr.buildSlice,Sem.run_bind,run_underlying hu,Result.andThen_ok,hsz,if_pos h0,if_neg h24,Sem.run_pure,hr0]
     rw [hfill]
     simp [newRow]
    ·have h24:¬ len * t.size > 2 ^ 24:=by omega
     simp only [execOp,ho,Instr.buildSlice,Sem.run_bind,run_underlying hu,Result.andThen_ok,hsz,h0,if_false,h24,hzv,Sem.run_pure]
     rw [hfill]
     simp [newRow]
   have hgf:=growF_new (base:=c.base) (e:=e) hs.hb hrw (by simp only [maxLen]; have:len<=len * t.size:=Nat.le_mul_of_pos_right _ (by rw [<-t.rp_size]; exact hp0); omega) [] len (by omega) (by simp only [maxLen]; have:len<=len * t.size:=Nat.le_mul_of_pos_right _ (by rw [<-t.rp_size]; exact hp0); omega) (by rw [hll]; simp)
   rw [List.append_nil,hll] at hgf
   have hnone':look (frzU lm (vs.flatMap AV.rows)++σ.mem) nx=none:=by rw [look_app,frzU_none (hnx nx (Nat.le_refl _)),hnone]; rfl
   have hflt:∀ b ∈ fps.flatten,b < w.heap.size:=by
    intro b hb
    obtain ⟨f,hf,hbf⟩:=List.mem_flatten.1 hb
    obtain ⟨i,hi,rfl⟩:=List.getElem_of_mem hf
    obtain ⟨cs,f',_,h2,h3⟩:=hrw.2.2 i (l[i]'(by have:=hrw.2.1; omega)) (List.getElem?_eq_getElem (by have:=hrw.2.1; omega))
    rw [List.getElem?_eq_getElem hi] at h2
    injection h2 with h2
    rw [h2] at hbf
    exact t.rp.lt h3 b hbf
   have hs2:=hf'.newRow (k:=nx) (o:=t.flat || ownV lm vs) hnone' (below_alloc w _) hgf (fun b hb=>by injection hb with hb; subst hb; exact Nat.le_refl _) (fun b hb=>.inr ⟨hflt b hb,hgd b hb⟩)
    (fun hfl=>⟨ownFp_frame (hown hfl).1 fun b hb=>(below_alloc w _).block b (hflt b hb),(hown hfl).2⟩)
   refine wp_value hrun (hK' (Γ.setR nx (.slice (some ⟨w.heap.size,0,none⟩) len len) fps.flatten) _ _ ?_)
   have h4:=hs2.put (d:=o.dst) (v:=.row nx 0) (u:=.slice (some ⟨w.heap.size,0,none⟩) len len) ⟨rfl,_,look_self ..,Nat.le_refl _,fun _=>by rw [Asg.setR_hd]⟩ (fun x hx=>hd x hx)
   unfold St.app
   cases hdst:o.dst<;>simp only [hdst,St.put] at h4 ⊢<;>exact h4
  ·exact h.elim
 ·exact h.elim
end
end Go.Proofs.YtaflkgjckmfkoaaGreat.DW

namespace Go.Proofs.YtaflkgjckmfkoaaGreat.DW
open Go.RowKit
section
variable {P:Program} {T:TypeId->Option Ty} {c:Cx} {lt:Nat->Option AV} {lm:Nat->Option Blk} {nx:Nat} {K:Eff->Prop} {o:Oper}
theorem growF_rows {t:Ty} {base:Nat} {w:World} {e:TypeId} {v:Value} {l:List t.den} {fps:List (List Nat)} (h:GrowF t.rp base w e v l fps) :
  ∃ ad cc css,v=.slice ad l.length cc/\RowsOf t.rp w l css fps/\(ad=none->l=[])/\∀ a,ad=some a->∀ j d,css.flatten[j]? = some d->w.cell? (a.add j)=some d:=by
 obtain ⟨xs,ho,hfl,he⟩:=h
 have hex:∀ i,i < l.length->∃ cs:List Value,∀ x,l[i]? = some x->∃ f,fps[i]? = some f/\t.rp.rep w cs x f/\∀ j d,cs[j]? = some d->xs[i * t.rp.size+j]? = some d:=by
  intro i hi
  obtain ⟨f,cs,h1,h2,h3⟩:=he i l[i] (List.getElem?_eq_getElem hi)
  refine ⟨cs,fun x hx=>?_⟩
  rw [List.getElem?_eq_getElem hi] at hx
  injection hx with hx
  subst hx
  exact ⟨f,h1,h2,h3⟩
 obtain ⟨css,hcl,hcs⟩:=exList l.length hex
 have hrows:RowsOf t.rp w l css fps:=by
  refine ⟨hcl,hfl,fun i x hx=>?_⟩
  have hi:=(List.getElem?_eq_some_iff.1 hx).1
  have hc:css[i]? = some (css[i]'(by omega)):=List.getElem?_eq_getElem (by omega)
  obtain ⟨f,h1,h2,_⟩:=hcs i _ hc x hx
  exact ⟨_,f,hc,h1,h2⟩
 rcases ho.2 with ⟨hn,h0⟩|⟨g,cap,cur,hv,hbg,hg',h1',h2',h3',h4'⟩
 ·have:l=[]:=List.eq_nil_of_length_eq_zero h0
  subst this
  exact ⟨none,0,css,by rw [hn]; rfl,hrows,fun _=>rfl,fun a ha=>by cases ha⟩
 ·refine ⟨_,cap,css,hv,hrows,(fun hn=>by cases hn),fun a ha j d hd=>?_⟩
  injection ha with ha
  subst ha
  obtain ⟨cs,hc,hd⟩:=flat_back t.pos hrows.len hd
  have hi:j / t.rp.size < l.length:=by have:=(List.getElem?_eq_some_iff.1 hc).1; omega
  obtain ⟨f,_,_,h3⟩:=hcs _ cs hc _ (List.getElem?_eq_getElem hi)
  have:=h3 _ d hd
  rw [show j / t.rp.size * t.rp.size+j % t.rp.size=j by rw [Nat.mul_comm]; exact Nat.div_add_mod j _] at this
  rw [addr_add,Nat.zero_add,cell_of_row w g _ cur _ (0,0) hg',<-Array.getElem?_toList]
  rw [<-h4',List.getElem?_take] at this
  split at this
  ·exact this
  ·cases this
theorem data_rows {σ:St} {Γ:Asg} {a:Act} {w:World} (hs:Sim c σ Γ a w) {v:AV} {u:Value} {t:Ty} {l:List t.den} (hv:VRep c σ.mem Γ w v u) (hm:∀ k ∈ v.rows,look σ.mem k=lm k) (hd:v.data lm=some ⟨t,l⟩) :
  ∃ ad cc css fps,u=.slice ad l.length cc/\RowsOf t.rp w l css fps/\(∀ b ∈ fps.flatten,Gd c σ.mem Γ b)/\(ad=none->l=[])/\∀ a,ad=some a->∀ j d,css.flatten[j]? = some d->w.cell? (a.add j)=some d:=by
 by_cases hrow:∃ k ver e v' o l',v=.row k ver/\look σ.mem k=some (.row e t v' o l')
 ·obtain ⟨k,ver,e,v',o',l',rfl,hk⟩:=hrow
  have hd':=data_congr' hm hd
  simp only [AV.data,hk,Option.bind_some,Blk.data] at hd'
  split at hd'
  ·rename_i hvv
   injection hd' with hd'; injection hd' with _ d2
   obtain rfl:=d2
   obtain ⟨fps,hg,hf,hgd,_⟩:=hs.mm k _ hk
   obtain ⟨_,B,hB,hbh⟩:=hv
   rw [hk] at hB; injection hB with hB; subst hB
   rw [hbh.2 hvv]
   obtain ⟨ad,cc,css,h1,h2,h3,h4⟩:=growF_rows hg
   exact ⟨ad,cc,css,fps,h1,h2,fun b hb=>hgd b (hf ▸ hb),h3,h4⟩
  ·cases hd'
 ·obtain ⟨fp,hr,_,hg⟩:=data_rep hs hv hm hd
  obtain ⟨ad,cc,css,fps,h1,h2,h3,h4,h5⟩:=slice_rows hr
  refine ⟨ad,cc,css,fps,h1,h2,fun b hb=>hg (fun k ver e e' t' v' o' l' hk=>?_) b (h3 b hb),h4,h5⟩
  subst e
  have hd':=data_congr' hm hd
  have hd2:=hd'
  simp only [AV.data,hk,Option.bind_some,Blk.data] at hd2
  split at hd2
  ·injection hd2 with hd2; injection hd2 with d1 d2
   subst d1
   exact hrow ⟨k,ver,e',v',o',l',rfl,hk⟩
  ·cases hd2
theorem rows_lt {t:Ty} {w:World} {l:List t.den} {css:List (List Value)} {fps:List (List Nat)} (hrw:RowsOf t.rp w l css fps):∀ b ∈ fps.flatten,b < w.heap.size:=by
 intro b hb
 obtain ⟨f,hf,hbf⟩:=List.mem_flatten.1 hb
 obtain ⟨i,hi,rfl⟩:=List.getElem_of_mem hf
 obtain ⟨cs,f',_,h2,h3⟩:=hrw.2.2 i (l[i]'(by have:=hrw.2.1; omega)) (List.getElem?_eq_getElem (by have:=hrw.2.1; omega))
 rw [List.getElem?_eq_getElem hi] at h2
 injection h2 with h2
 rw [h2] at hbf
 exact t.rp.lt h3 b hbf
theorem growF_flat {t:Ty} {base:Nat} {w:World} {e:TypeId} {v:Value} {l:List t.den} {fps:List (List Nat)} (hf:t.flat=true) (h:GrowF t.rp base w e v l fps):fps.flatten=[]:=by
 obtain ⟨ad,cc,css,_,h2,_⟩:=growF_rows h
 exact flat_rows hf h2
theorem put_fin {σ σ':St} {Γ':Asg} {a:Act} {w':World} {K':Act->World->Prop} {e:Eff} {u:Value} (hK':∀ Γ' a' w',Sim c (σ.app o.dst e) Γ' a' w'->K' a' w') (hd:∀ d,o.dst=some d->d < c.n) (hs:Sim c σ' Γ' a w') (hv:VRep c σ'.mem Γ' w' e.v u) (h0:σ'.tmps=σ.tmps) (h1:σ'.mem=e.mems++σ.mem):K' (a.put o.dst u) w':=by
 refine hK' Γ' _ _ ?_
 have:=hs.put (d:=o.dst) hv (fun x hx=>hd x hx)
 unfold St.app
 rw [<-h1]
 cases hdst:o.dst<;>simp only [hdst,St.put,h0] at this ⊢<;>first|exact this|(rw [<-h0]; exact this)
theorem zv_size (t:Ty):t.zv.cells.size=t.size:=by rw [zv_cells]; simp [zc_len]
theorem aAppend_ok (hT:TabOK P T) (hnx:∀ k,nx<=k->lm k=none) {ty:TypeId} {x y:Operand} (ho:o.op=.call { callee:=.builtin .append,args:=#[x,y],argTypes:=#[ty,ty] }) (h:aAppend P T lt lm nx K ty x y):∃ e,K e/\SOK P c lt lm nx o e:=by
 unfold aAppend at h
 have hm1:x ∈ o.op.operands.toList:=by simp [ho,Op.operands,Call.operands]
 have hm2:y ∈ o.op.operands.toList:=by simp [ho,Op.operands,Call.operands]
 have hrun:∀ (a:Act) (w w':World) (u v v':Value),a.eval x=u->a.eval y=v->(Builtin.append_ #[ty,ty] o.type #[u,v]).run P w=.ok v' w'->(execOp a.eval o).run P w=.ok (.value v') w':=by
  intro a w w' u v v' h1 h2 h3
  simp only [execOp,ho,resolve,invoke,builtin,Sem.run_bind,Sem.run_pure,Result.andThen_ok,List.map_toArray,List.map_cons,List.map_nil,h1,h2,h3]
 split at h
 ·rename_i e hu
  split at h
  ·rename_i t i k ver v ht hi hx hy
   split at h
   ·rename_i e' s vv oo l d hk hdat
    split at h
    rotate_left
    ·exact h.elim
    rename_i m hmg
    obtain rfl:=lget_eq hmg
    obtain ⟨rfl,rfl,hkv,hss,hb1,hb2,hK⟩:=h
    obtain ⟨i',dd,hi1,hi2,hi3,_,_⟩:=hT _ _ ht
    simp only [bts,hi1,Option.map_some,Option.some.injEq] at hi
    subst hi
    have hsz':=s.rp_size
    have hps:=s.pos
    by_cases how:(!s.flat && oo && OwnL lm v)=true
    ·rw [how,Bool.or_true,if_pos rfl] at hK
     refine ⟨_,hK,fun p hp=>?_,fun σ Γ a w hs hl hm hn hd K' Q hK'=>?_⟩
     ·rcases List.mem_cons.1 hp with rfl|hp
      ·exact .inr List.mem_cons_self
      ·exact .inr (List.mem_cons_of_mem _ (frzU_mem hp))
     simp only [Bool.and_eq_true,Bool.not_eq_true'] at how
     obtain ⟨⟨hnf,rfl⟩,how⟩:=how
     have hk':=(hm k List.mem_cons_self).trans hk
     have hmv:∀ j ∈ v.rows,look σ.mem j=lm j:=fun j hj=>hm j (List.mem_cons_of_mem _ hj)
     have hvr:=op_ev hs hl hm2 hy
     obtain ⟨k2,ver2,rfl⟩:∃ k2 ver2,v=.row k2 ver2:=by
      cases v with
      | row k2 ver2=>exact ⟨k2,ver2,rfl⟩
      | sl _ _=>cases how
      | fx _ _ _=>cases how
      | _=>cases hdat
     have hkk:k ≠ k2:=fun e=>hkv (by rw [e]; exact List.mem_singleton.2 rfl)
     have how':OwnC σ (.row k2 ver2)=true:=by
      rw [OwnC,ownL_congr (lm:=lm) (fun k' ver' he=>(by cases he; exact hmv k2 (List.mem_singleton.2 rfl)))]; exact how
     have hdat':(AV.row k2 ver2).data (look σ.mem)=some ⟨s,m⟩:=by rw [<-hdat]; exact data_congr fun k' ver' he=>(by cases he; exact hmv k2 (List.mem_singleton.2 rfl))
     obtain ⟨fp,hr,hofp,hhold⟩:=hs.ownRep (t:=.slice s) (cs:=[.row k2 ver2]) (us:=[a.eval y]) ⟨hvr,trivial⟩ ⟨_,rfl,.inl hdat'⟩ (by simp [how']) (by simp [cellRows])
     have hlive:=ownC_live how'
     obtain ⟨ad,cc,css,fps2,hu2,hr2,hsub,hn2,hc2,hfpx⟩:=slice_rows' (p:=s.pos) hr
     have ho2:OwnFp c.base w fps2.flatten:=by
      rcases hfpx with e|⟨b,e⟩
      ·rw [e]; exact ownFp_nil _ _
      ·rw [e] at hofp; exact ⟨(List.nodup_cons.1 hofp.1).2,fun b hb=>hofp.2 b (List.mem_cons_of_mem _ hb)⟩
     have hh2:∀ b ∈ fps2.flatten,Holds σ Γ k2 b:=fun b hb=>by
      obtain ⟨k3,hk3,hh⟩:=hhold b (hsub b hb)
      have:k3=k2:=by simpa [cellRows] using hk3
      rwa [this] at hh
     have hf':=hs.frz (ks:=[k2])
     have hcongr:frzU (look σ.mem) [k2]=frzU lm [k2]:=frzU_congr fun j hj=>hmv j hj
     have hfree:∀ b ∈ fps2.flatten,∀ j B,look (frzU lm [k2]++σ.mem) j=some B->¬ B.mut Γ j b/\b ∉ B.ofp Γ j:=fun b hb j B hj=>by
      rw [<-hcongr] at hj
      exact frz_free hs (List.mem_singleton.2 rfl) hlive (hh2 b hb) hj
     rw [hcongr] at hf'
     have hkf:look (frzU lm [k2]++σ.mem) k=some (.row e' s vv true l):=by
      rw [look_app]
      cases hq:look (frzU lm [k2]) k with
      | none=>exact hk'
      | some B=>obtain ⟨q,hq1,hq2⟩:=look_mem hq; have:=frzU_mem hq1; rw [hq2] at this; exact absurd (List.mem_singleton.1 this) hkk
     obtain ⟨fps,hg,hf,hgd,hon⟩:=hf'.mm k _ hkf
     obtain ⟨_,B,hB,hbh⟩:=(op_ev hs hl hm1 hx:VRep c σ.mem Γ w _ (a.eval x))
     rw [hk'] at hB; injection hB with hB; subst hB
     have hxe:=hbh.2 rfl
     have hg2:∀ b ∈ fps2.flatten,Gd c (frzU lm [k2]++σ.mem) Γ b:=fun b hb=>⟨.inr (ho2.2 b hb).1,fun ⟨j,B,hj,hmu⟩=>(hfree b hb j B hj).1 hmu⟩
     have hnm:∀ b,Gd c (frzU lm [k2]++σ.mem) Γ b->(Γ.hd k).ownBlock ≠ some b:=fun b hb e=>hb.2 ⟨k,_,hkf,e⟩
     obtain ⟨v',w',h1,h2,h3,h4⟩:=run_appendF (P:=P) ty o.type e' i' t.zv hu hi1 hi3 (by rw [hi2,hsz',hss]) (by rw [zv_size,hsz',hss]) hps hg hu2 hr2 hn2 hc2 (by simp only [maxLen]; exact hb2) hb1 hs.hb (fun b hb=>hnm b (hgd b (hf ▸ hb))) (fun b hb=>hnm b (hg2 b hb))
     have hall:∀ b ∈ (fps++fps2).flatten,b < w.heap.size/\Gd c (frzU lm [k2]++σ.mem) Γ b:=by
      intro b hb
      rw [List.flatten_append,List.mem_append] at hb
      rcases hb with hb|hb
      ·exact ⟨hg.lt b hb,hgd b (hf ▸ hb)⟩
      ·exact ⟨rows_lt hr2 b hb,hg2 b hb⟩
     have ho1:=hon rfl
     rw [hf] at ho1
     have hh1:∀ b ∈ fps.flatten,Holds σ Γ k b:=fun b hb=>⟨_,hk',.inr (by simp only [Blk.ofp]; rw [hf]; exact hb)⟩
     have hs2:=hf'.updRow (ver':=vv+1) (o':=true) hkf h2 h3 (h4.imp id fun h b hb=>by rw [h] at hb; injection hb with hb; omega) (.inl rfl) hall
      (fun _=>by
       refine ⟨ownFp_frame (w:=w) ⟨?_,fun b hb=>?_⟩ fun b hb=>h3.block b (hall b hb).1 fun e=>hnm b (hall b hb).2 e.symm,fun b hb j B hjk hj=>?_⟩
       ·rw [List.flatten_append,List.nodup_append]
        refine ⟨ho1.1,ho2.1,fun b hb b' hb' e=>?_⟩
        subst e
        exact hkk (holds_inj hs (hh1 b hb) (hh2 b hb'))
       ·rw [List.flatten_append,List.mem_append] at hb
        exact hb.elim (ho1.2 b) (ho2.2 b)
       ·rw [List.flatten_append,List.mem_append] at hb
        rcases hb with hb|hb
        ·exact hf'.disj k j _ B b hkf hj (Ne.symm hjk) (by simp only [Blk.ofp]; rw [hf]; exact hb)
        ·exact (hfree b hb j B hj).2)
     refine wp_value (hrun a w w' _ _ v' hxe rfl h1) (put_fin hK' hd hs2 ?_ rfl rfl)
     refine ⟨?_,_,look_self ..,Nat.le_refl _,fun _=>by rw [Asg.setR_hd]⟩
     obtain ⟨ad',cc',css',e1,_⟩:=growF_rows h2
     rw [e1]; rfl
    ·have how':(!s.flat && oo && OwnL lm v)=false:=by simpa using how
     rw [how',Bool.or_false,if_neg (by simp)] at hK
     refine ⟨_,hK,fun p hp=>?_,fun σ Γ a w hs hl hm hn hd K' Q hK'=>?_⟩
     ·simp at hp; subst hp; exact .inr List.mem_cons_self
     have hk':=(hm k List.mem_cons_self).trans hk
     obtain ⟨ad,cc,css,fps2,hu2,hr2,hg2,hn2,hc2⟩:=data_rows hs (op_ev hs hl hm2 hy) (fun j hj=>hm j (List.mem_cons_of_mem _ hj)) hdat
     obtain ⟨fps,hg,hf,hgd,_⟩:=hs.mm k _ hk'
     obtain ⟨_,B,hB,hbh⟩:=(op_ev hs hl hm1 hx:VRep c σ.mem Γ w _ (a.eval x))
     rw [hk'] at hB; injection hB with hB; subst hB
     have hxe:=hbh.2 rfl
     have hnm:∀ b,Gd c σ.mem Γ b->(Γ.hd k).ownBlock ≠ some b:=fun b hb e=>hb.2 ⟨k,_,hk',e⟩
     have hsz':=s.rp_size
     have hps:=s.pos
     obtain ⟨v',w',h1,h2,h3,h4⟩:=run_appendF (P:=P) ty o.type e' i' t.zv hu hi1 hi3 (by rw [hi2,hsz',hss]) (by rw [zv_size,hsz',hss]) hps hg hu2 hr2 hn2 hc2 (by simp only [maxLen]; exact hb2) hb1 hs.hb (fun b hb=>hnm b (hgd b (hf ▸ hb))) (fun b hb=>hnm b (hg2 b hb))
     have hall:∀ b ∈ (fps++fps2).flatten,b < w.heap.size/\Gd c σ.mem Γ b:=by
      intro b hb
      rw [List.flatten_append,List.mem_append] at hb
      rcases hb with hb|hb
      ·exact ⟨hg.lt b hb,hgd b (hf ▸ hb)⟩
      ·exact ⟨rows_lt hr2 b hb,hg2 b hb⟩
     have hs2:=hs.updRow (ver':=vv+1) (o':=s.flat) hk' h2 h3 (h4.imp id fun h b hb=>by rw [h] at hb; injection hb with hb; omega) (.inl rfl) hall
      (fun hfl=>by rw [growF_flat hfl h2]; exact ⟨ownFp_nil _ _,fun b hb=>by cases hb⟩)
     refine wp_value (hrun a w w' _ _ v' hxe rfl h1) (put_fin hK' hd hs2 ?_ rfl rfl)
     refine ⟨?_,_,look_self ..,Nat.le_refl _,fun _=>by rw [Asg.setR_hd]⟩
     obtain ⟨ad',cc',css',e1,_⟩:=growF_rows h2
     rw [e1]; rfl
   ·exact h.elim
  ·rename_i t i v ht hi hx hy
   split at h
   ·rename_i d hdat
    split at h
    rotate_left
    ·exact h.elim
    rename_i m hmg
    obtain rfl:=lget_eq hmg
    obtain ⟨hb1,hb2,hK⟩:=h
    by_cases how:(!t.flat && OwnL lm v)=true
    ·rw [how,Bool.or_true,if_pos rfl] at hK
     refine ⟨_,hK,fun p hp=>?_,fun σ Γ a w hs hl hm hn hd K' Q hK'=>?_⟩
     ·rcases List.mem_cons.1 hp with rfl|hp
      ·exact .inl (Nat.le_refl _)
      ·exact .inr (frzU_mem hp)
     simp only [Bool.and_eq_true,Bool.not_eq_true'] at how
     obtain ⟨hnf,how⟩:=how
     have hvr:=op_ev hs hl hm2 hy
     obtain ⟨k2,ver2,rfl⟩:∃ k2 ver2,v=.row k2 ver2:=by
      cases v with
      | row k2 ver2=>exact ⟨k2,ver2,rfl⟩
      | sl _ _=>cases how
      | fx _ _ _=>cases how
      | _=>cases hdat
     have hmv:∀ j ∈ [k2],look σ.mem j=lm j:=fun j hj=>hm j hj
     have how':OwnC σ (.row k2 ver2)=true:=by
      rw [OwnC,ownL_congr (lm:=lm) (fun k' ver' he=>(by cases he; exact hmv k2 (List.mem_singleton.2 rfl)))]; exact how
     have hdat':(AV.row k2 ver2).data (look σ.mem)=some ⟨t,m⟩:=by rw [<-hdat]; exact data_congr fun k' ver' he=>(by cases he; exact hmv k2 (List.mem_singleton.2 rfl))
     obtain ⟨fp,hr,hofp,hhold⟩:=hs.ownRep (t:=.slice t) (cs:=[.row k2 ver2]) (us:=[a.eval y]) ⟨hvr,trivial⟩ ⟨_,rfl,.inl hdat'⟩ (by simp [how']) (by simp [cellRows])
     have hlive:=ownC_live how'
     obtain ⟨ad,cc,css,fps2,hu2,hr2,hsub,hn2,hc2,hfpx⟩:=slice_rows' (p:=t.pos) hr
     have ho2:OwnFp c.base w fps2.flatten:=by
      rcases hfpx with e|⟨b,e⟩
      ·rw [e]; exact ownFp_nil _ _
      ·rw [e] at hofp; exact ⟨(List.nodup_cons.1 hofp.1).2,fun b hb=>hofp.2 b (List.mem_cons_of_mem _ hb)⟩
     have hh2:∀ b ∈ fps2.flatten,Holds σ Γ k2 b:=fun b hb=>by
      obtain ⟨k3,hk3,hh⟩:=hhold b (hsub b hb)
      have:k3=k2:=by simpa [cellRows] using hk3
      rwa [this] at hh
     have hf':=hs.frz (ks:=[k2])
     have hcongr:frzU (look σ.mem) [k2]=frzU lm [k2]:=frzU_congr fun j hj=>hmv j hj
     have hfree:∀ b ∈ fps2.flatten,∀ j B,look (frzU lm [k2]++σ.mem) j=some B->¬ B.mut Γ j b/\b ∉ B.ofp Γ j:=fun b hb j B hj=>by
      rw [<-hcongr] at hj
      exact frz_free hs (List.mem_singleton.2 rfl) hlive (hh2 b hb) hj
     rw [hcongr] at hf'
     have hg2:∀ b ∈ fps2.flatten,Gd c (frzU lm [k2]++σ.mem) Γ b:=fun b hb=>⟨.inr (ho2.2 b hb).1,fun ⟨j,B,hj,hmu⟩=>(hfree b hb j B hj).1 hmu⟩
     have hxe:a.eval x=_:=(op_ev hs hl hm1 hx:VRep c σ.mem Γ w _ (a.eval x)).1
     obtain ⟨i',dd,hi1,hi2,hi3,_,_⟩:=hT _ _ ht
     simp only [bts,hi1,Option.map_some,Option.some.injEq] at hi
     subst hi
     have hsz':=t.rp_size
     have hps:=t.pos
     have hnone:look (frzU lm [k2]++σ.mem) nx=none:=by
      have hne:nx ≠ k2:=fun e=>by
       have hl2:=hnx nx (Nat.le_refl _)
       rw [e] at hl2
       simp only [AV.data,hl2] at hdat
       cases hdat
      rw [look_app]
      cases hq:look (frzU lm [k2]) nx with
      | none=>exact hn (nx,_) List.mem_cons_self (by simpa [AV.rows] using hne)
      | some B=>obtain ⟨q,hq1,hq2⟩:=look_mem hq; have:=frzU_mem hq1; rw [hq2] at this; exact absurd (List.mem_singleton.1 this) hne
     obtain ⟨v',w',h1,h2,h3,h4⟩:=run_appendF (P:=P) (A:=t.rp) ty o.type e i' t.zv hu hi1 hi3 (by rw [hi2,hsz']) (by rw [zv_size,hsz']) hps (growF_nil c.base w e) hu2 hr2 hn2 hc2 (by simp only [maxLen,List.length_nil]; omega) (by simpa using hb1) hs.hb (fun b hb=>by simp at hb) (fun b hb=>by simp [Value.ownBlock])
     simp only [List.nil_append] at h2
     have hbel:Below w.heap.size w w':=⟨h3.os,h3.tape,h3.output,h3.size,fun b hb=>h3.block b hb (by simp [Value.ownBlock])⟩
     have hs2:=hf'.newRow (o:=true) hnone hbel h2 (fun b hb=>by
      rcases h4 with h4|h4
      ·rw [h4] at hb; cases hb
      ·rw [h4] at hb; injection hb with hb; omega) (fun b hb=>.inr ⟨rows_lt hr2 b hb,hg2 b hb⟩)
      (fun _=>⟨ownFp_frame ho2 fun b hb=>hbel.block b (rows_lt hr2 b hb),fun b hb j B hj=>(hfree b hb j B hj).2⟩)
     refine wp_value (hrun a w w' _ _ v' hxe rfl h1) (put_fin hK' hd hs2 ?_ rfl rfl)
     refine ⟨?_,_,look_self ..,Nat.le_refl _,fun _=>by rw [Asg.setR_hd]⟩
     obtain ⟨ad',cc',css',e1,_⟩:=growF_rows h2
     rw [e1]; rfl
    ·have how':(!t.flat && OwnL lm v)=false:=by simpa using how
     rw [how',Bool.or_false,if_neg (by simp)] at hK
     refine ⟨_,hK,fun p hp=>?_,fun σ Γ a w hs hl hm hn hd K' Q hK'=>?_⟩
     ·simp at hp; subst hp; exact .inl (Nat.le_refl _)
     have hnone:look σ.mem nx=none:=by
      by_cases hin:nx ∈ v.rows
      ·rw [hm nx hin]; exact hnx nx (Nat.le_refl _)
      ·exact hn (nx,_) List.mem_cons_self hin
     obtain ⟨ad,cc,css,fps2,hu2,hr2,hg2,hn2,hc2⟩:=data_rows hs (op_ev hs hl hm2 hy) hm hdat
     have hxe:a.eval x=_:=(op_ev hs hl hm1 hx:VRep c σ.mem Γ w _ (a.eval x)).1
     obtain ⟨i',dd,hi1,hi2,hi3,_,_⟩:=hT _ _ ht
     simp only [bts,hi1,Option.map_some,Option.some.injEq] at hi
     subst hi
     have hsz':=t.rp_size
     have hps:=t.pos
     obtain ⟨v',w',h1,h2,h3,h4⟩:=run_appendF (P:=P) (A:=t.rp) ty o.type e i' t.zv hu hi1 hi3 (by rw [hi2,hsz']) (by rw [zv_size,hsz']) hps (growF_nil c.base w e) hu2 hr2 hn2 hc2 (by simp only [maxLen,List.length_nil]; omega) (by simpa using hb1) hs.hb (fun b hb=>by simp at hb) (fun b hb=>by simp [Value.ownBlock])
     simp only [List.nil_append] at h2
     have hbel:Below w.heap.size w w':=⟨h3.os,h3.tape,h3.output,h3.size,fun b hb=>h3.block b hb (by simp [Value.ownBlock])⟩
     have hs2:=hs.newRow (o:=t.flat) hnone hbel h2 (fun b hb=>by
      rcases h4 with h4|h4
      ·rw [h4] at hb; cases hb
      ·rw [h4] at hb; injection hb with hb; omega) (fun b hb=>.inr ⟨rows_lt hr2 b hb,hg2 b hb⟩)
      (fun hfl=>by rw [growF_flat hfl h2]; exact ⟨ownFp_nil _ _,fun b hb=>by cases hb⟩)
     refine wp_value (hrun a w w' _ _ v' hxe rfl h1) (put_fin hK' hd hs2 ?_ rfl rfl)
     refine ⟨?_,_,look_self ..,Nat.le_refl _,fun _=>by rw [Asg.setR_hd]⟩
     obtain ⟨ad',cc',css',e1,_⟩:=growF_rows h2
     rw [e1]; rfl
   ·exact h.elim
  ·exact h.elim
 ·exact h.elim
theorem madeCells_get (z:Array Value) (n i:Nat) (h:i < n):(madeCells z n)[i]? = some (z[i % z.size]!):=by simp [madeCells,h]
theorem flat_replicate {α:Type} (cs:List α) (n i:Nat) (h0:0 < cs.length) (h:i < n * cs.length):(List.replicate n cs).flatten[i]? = cs[i % cs.length]?:=by
 induction n generalizing i with
 | zero=>simp at h
 | succ n ih =>
  rw [List.replicate_succ,List.flatten_cons]
  rcases Nat.lt_or_ge i cs.length with hi|hi
  ·rw [List.getElem?_append_left hi,Nat.mod_eq_of_lt hi]
  ·rw [Nat.succ_mul] at h
   rw [List.getElem?_append_right hi,ih _ (by omega),Nat.mod_eq_sub_mod hi]
theorem aMakeSlice_ok (hT:TabOK P T) {ty:TypeId} {x y:Operand} (ho:o.op=.makeSlice ty x y) (h:aMakeSlice P T lt nx K ty x y):∃ e,K e/\SOK P c lt lm nx o e:=by
 unfold aMakeSlice at h
 split at h
 ·rename_i e hu
  split at h
  ·rename_i t i n m ht hi hx hy
   obtain ⟨h0,hnm,hby,hK⟩:=h
   refine ⟨_,hK,SOK.one (.inl (Nat.le_refl _)) fun σ Γ a w hs hl _ hn=>?_⟩
   obtain ⟨e1,_,o1⟩:=(op_ev hs hl (by simp [ho,Op.operands]) hx:VRep c σ.mem Γ w _ (a.eval x))
   obtain ⟨e2,_,o2⟩:=(op_ev hs hl (by simp [ho,Op.operands]) hy:VRep c σ.mem Γ w _ (a.eval y))
   obtain ⟨i',dd,hi1,hi2,hi3,_,_⟩:=hT _ _ ht
   simp only [bts,hi1,Option.map_some,Option.some.injEq] at hi
   subst hi
   have hrun:=run_make (P:=P) w ty e i' t.zv hu hi1 hi3 .i64 .i64 n m h0 hnm hby o2.2
   rw [hi2] at hrun
   have hp0:=t.pos
   rw [t.rp_size] at hp0
   have hzl:=zc_len t
   have hmul:n.toNat * t.size<=m.toNat * t.size:=Nat.mul_le_mul_right _ (by omega)
   have hcells:madeCells t.zv.cells (m.toNat * t.size)=((List.replicate n.toNat t.zc).flatten++(madeCells t.zv.cells (m.toNat * t.size)).toList.drop (n.toNat * t.size)).toArray:=by
    apply Array.toList_inj.1
    rw [List.toList_toArray]
    apply List.ext_getElem?
    intro q
    have hfl:(List.replicate n.toNat t.zc).flatten.length=n.toNat * t.size:=by simp [hzl]
    rcases Nat.lt_or_ge q (n.toNat * t.size) with hq|hq
    ·rw [List.getElem?_append_left (by omega),flat_replicate _ _ _ (by omega) (by rw [hzl]; exact hq),Array.getElem?_toList,madeCells_get _ _ _ (by omega),zv_cells,hzl]
     have:q % t.size < t.zc.length:=by rw [hzl]; exact Nat.mod_lt _ hp0
     simp [hzl,List.getElem?_eq_getElem this,getElem!_pos,this]
    ·rw [List.getElem?_append_right (by omega),hfl,List.getElem?_drop]
     congr 1; omega
   have hrw:RowsOf t.rp w (List.replicate n.toNat t.zero) (List.replicate n.toNat t.zc) (List.replicate n.toNat []):=by
    refine ⟨by simp,by simp,fun j x hx=>?_⟩
    have hj:j < n.toNat:=by simpa using (List.getElem?_eq_some_iff.1 hx).1
    rw [List.getElem?_replicate,if_pos hj] at hx
    injection hx with hx
    subst hx
    exact ⟨t.zc,[],by rw [List.getElem?_replicate,if_pos hj],by rw [List.getElem?_replicate,if_pos hj],zc_rep w t⟩
   have hgf:=growF_new (base:=c.base) (e:=e) hs.hb hrw (by simp only [maxLen,List.length_replicate]; have:=o2.2; omega) ((madeCells t.zv.cells (m.toNat * t.size)).toList.drop (n.toNat * t.size)) m.toNat (by simp; omega) (by simp only [maxLen]; have:=o2.2; omega)
    (by simp only [List.length_replicate,List.length_drop,Array.length_toList,size_madeCells]; rw [t.rp_size]; omega)
   rw [<-hcells,List.length_replicate] at hgf
   have hfn:(List.replicate n.toNat ([]:List Nat)).flatten=[]:=by simp
   refine ⟨.slice (some ⟨w.heap.size,0,none⟩) n.toNat m.toNat,_,_,.inl (by simp only [execOp,ho,e1,e2,Sem.run_bind,hrun,Result.andThen_ok,Sem.run_pure]),hs.newRow (o:=true) (hn (by simp)) (below_alloc w _) hgf (fun b hb=>by injection hb with hb; subst hb; exact Nat.le_refl _) (fun b hb=>by rw [hfn] at hb; cases hb)
    (fun _=>by rw [hfn]; exact ⟨ownFp_nil _ _,fun b hb=>by cases hb⟩),⟨rfl,_,look_self ..,Nat.le_refl _,fun _=>by rw [Asg.setR_hd]⟩⟩
  ·exact h.elim
 ·exact h.elim
theorem evo_rep {σ:St} {Γ:Asg} {a:Act} {w:World} (hs:Sim c σ Γ a w) {x:Option Operand} {z n:Int} (hl:∀ y,x=some y->∀ t,y=.tmp t->look σ.tmps t=lt t) (h:evo lt x z=some n):(x=none/\n=z)\/∃ y,x=some y/\a.eval y=.int .i64 n:=by
 cases x with
 | none=>injection h with h; exact .inl ⟨rfl,h.symm⟩
 | some y =>
  simp only [evo] at h
  split at h
  ·rename_i m hm
   injection h with h
   subst h
   exact .inr ⟨y,rfl,(ev_rep hs (hl y rfl) hm:VRep c σ.mem Γ w _ (a.eval y)).1⟩
  ·cases h
theorem rep_cut {t:Ty} {w:World} {ad:Option Addr} {cc:Nat} {l:List t.den} {fp:List Nat} (h:(Rp.slice t.rp t.pos).rep w [.slice ad l.length cc] l fp) {i j:Nat} (hij:i<=j) (hj:j<=l.length) :
  ∃ fp',(Rp.slice t.rp t.pos).rep w [.slice (if cc=i then ad else ad.map (·.add (i * t.rp.size))) (j - i) (cc - i)] ((l.take j).drop i) fp'/\∀ b ∈ fp',b ∈ fp:=by
 obtain ⟨ad',cc',h1,h2,h3,h4⟩:=h
 injection h1 with h1
 injection h1 with ha _ hcc
 subst ha hcc
 have hlen:((l.take j).drop i).length=j - i:=by rw [List.length_drop,List.length_take]; omega
 by_cases h0:j - i=0
 ·have:(l.take j).drop i=[]:=List.eq_nil_of_length_eq_zero (by omega)
  rw [this]
  exact ⟨[],⟨_,_,by rw [h0]; rfl,by simp,by omega,.inl ⟨rfl,rfl⟩⟩,fun b hb=>by cases hb⟩
 ·rcases h4 with ⟨rfl,_⟩|⟨b,off,fps,hl,ha,hfp,hfl,he⟩
  ·simp at hj; omega
  ·have hne:cc ≠ i:=by omega
   rw [if_neg hne,ha]
   refine ⟨b :: ((fps.take j).drop i).flatten,⟨some ⟨b,off+i * t.rp.size,none⟩,cc - i,by rw [hlen]; simp [addr_add],by omega,by omega,.inr ⟨b,off+i * t.rp.size,(fps.take j).drop i,?_,rfl,rfl,by rw [hlen,List.length_drop,List.length_take]; omega,fun q x hx=>?_⟩⟩,fun b' hb'=>?_⟩
   ·intro hn; rw [hn] at hlen; simp at hlen; omega
   ·have hq:=(List.getElem?_eq_some_iff.1 hx).1
    rw [hlen] at hq
    rw [List.getElem?_drop,List.getElem?_take,if_pos (by omega)] at hx
    obtain ⟨f,cs,hf,hr,hc⟩:=he _ x hx
    refine ⟨f,cs,by rw [List.getElem?_drop,List.getElem?_take,if_pos (by omega)]; exact hf,hr,fun p v hv=>?_⟩
    have:=hc p v hv
    rw [Nat.add_mul] at this
    rw [show off+i * t.rp.size+q * t.rp.size+p=off+(i * t.rp.size+q * t.rp.size)+p by omega]
    exact this
   ·rw [hfp]
    rcases List.mem_cons.1 hb' with rfl|hb'
    ·exact List.mem_cons_self
    ·obtain ⟨f,hf,hbf⟩:=List.mem_flatten.1 hb'
     exact List.mem_cons_of_mem _ (List.mem_flatten.2 ⟨f,List.mem_of_mem_take (List.mem_of_mem_drop hf),hbf⟩)
theorem data_frz {v:AV} {d:Lst} {M:Mm} (hd:v.data lm=some d) (hm:∀ k ∈ v.rows,look M k=lm k):v.data (look (frzU lm v.rows++M))=some d:=by
 cases v with
 | sl t l=>exact hd
 | fx _ t l=>exact hd
 | row k ver =>
  have hk:=hm k (by simp [AV.rows])
  simp only [AV.rows,AV.data,frzU] at hd ⊢
  cases hl:lm k with
  | none=>rw [hl] at hd; cases hd
  | some B =>
   rw [hl] at hd
   simp only [Option.bind_some] at hd ⊢
   cases B with
   | row e t v o l =>
    simp only [Blk.fz,List.nil_append,List.cons_append,look_self,Option.bind_some,Blk.data] at hd ⊢
    exact hd
   | odat t l =>
    simp only [Blk.fz,List.nil_append,List.cons_append,look_self,Option.bind_some,Blk.data] at hd ⊢
    split at hd
    ·rename_i h0; rw [if_pos h0.symm]; exact hd
    ·cases hd
   | froz t v l =>
    simp only [Blk.fz,List.nil_append,hk,hl,Option.bind_some]
    exact hd
   | _=>cases hd
 | _=>cases hd
theorem slice_run {ty e:TypeId} {x:Operand} {lo hi:Option Operand} {a:Act} {w:World} {σ:St} {Γ:Asg} {s t:Ty} (hT:TyOK P e t) (hss:t.size=s.size) (ho:o.op=.slice ty x lo hi none) (hu:P.underlying ty=some (.slice e)) (hs:Sim c σ Γ a w) (hl:∀ t ∈ opnds o,look σ.tmps t=lt t)
  {ad:Option Addr} {n cc:Nat} (hva:a.eval x=.slice ad n cc) (hlc:n<=cc) {za zb:Int} (hza:evo lt lo 0=some za) (hzb:evo lt hi n=some zb) (h0:0<=za) (hab:za<=zb) (hbl:zb<=n) :
  (execOp a.eval o).run P w=.ok (.value (.slice (if cc=za.toNat then ad else ad.map (·.add (za.toNat * s.rp.size))) (zb.toNat - za.toNat) (cc - za.toNat))) w:=by
 have hsz:=hT.sizeOf w
 have hlo:=evo_rep hs (x:=lo) (fun y hy t e=>hl t (mem_opnds (by simp [ho,Op.operands,hy]) e)) hza
 have hhi:=evo_rep hs (x:=hi) (fun y hy t e=>hl t (mem_opnds (by simp [ho,Op.operands,hy]) e)) hzb
 have hb1:zb<=(cc:Int):=by omega
 have hb2:zb.toNat<=n:=by omega
 have hsz':s.rp.size=t.size:=by rw [s.rp_size,hss]
 have c1:∀ code,(Instr.sliceBound (.int .i64 zb) cc code).run P w=.ok zb.toNat w:=fun code=>run_sliceBound (P:=P) (w:=w) .i64 zb cc code (by omega) hb1
 have c2:∀ code,(Instr.sliceBound (.int .i64 za) zb.toNat code).run P w=.ok za.toNat w:=fun code=>run_sliceBound (P:=P) (w:=w) .i64 za _ code h0 (by omega)
 have key:∀ (ol oh:Option Value),(ol=none/\za=0\/ol=some (.int .i64 za))->(oh=none/\zb=n\/oh=some (.int .i64 zb))->(Instr.sliceBounds true n cc ol oh none).run P w=.ok (za.toNat,zb.toNat,cc) w:=by
  intro ol oh h1 h2
  have hh:zb=n->(n:Int).toNat=zb.toNat:=fun h=>by rw [h]
  rcases h1 with ⟨rfl,rfl⟩|rfl<;>rcases h2 with ⟨rfl,hz⟩|rfl
  ·simp [Instr.sliceBounds,hz]
  ·simp [Instr.sliceBounds,c1]
  ·have hz2:n=zb.toNat:=by omega
   simp only [Instr.sliceBounds,Sem.run_bind,Sem.run_pure,Result.andThen_ok]
   rw [hz2]
   simp [c2]
  ·simp [Instr.sliceBounds,c1,c2]
 have hkk:=key (lo.map a.eval) (hi.map a.eval) (by rcases hlo with ⟨rfl,h⟩|⟨y,rfl,h⟩<;>simp_all) (by rcases hhi with ⟨rfl,h⟩|⟨y,rfl,h⟩<;>simp_all)
 simp only [execOp,ho,hva,Instr.sliceAt,Sem.run_bind,run_underlying hu,Result.andThen_ok,Instr.slice,Option.map_none,hkk,hsz,hsz',Sem.run_pure]
theorem growF_take {t:Ty} {base:Nat} {w:World} {e:TypeId} {ad:Option Addr} {cc m:Nat} {l:List t.den} {fps:List (List Nat)} (h:GrowF t.rp base w e (.slice ad l.length cc) l fps) (hm:m<=l.length) :
  GrowF t.rp base w e (.slice ad m cc) (l.take m) (fps.take m):=by
 obtain ⟨xs,⟨h1,h2⟩,h3,h4⟩:=h
 have hmul:m * t.rp.size<=l.length * t.rp.size:=Nat.mul_le_mul_right _ hm
 refine ⟨xs.take (m * t.rp.size),⟨by rw [List.length_take,List.length_take]; rw [Nat.min_eq_left hm]; omega,?_⟩,by rw [List.length_take,List.length_take,h3],fun i x hx=>?_⟩
 ·rw [List.length_take,Nat.min_eq_left hm]
  rcases h2 with ⟨h2,h5⟩|⟨g,cap,cur,e1,hb,hg,hc,hcm,hcs,htk⟩
  ·injection h2 with e1 e2 e3
   subst e1 e3
   have:m=0:=by omega
   subst this
   exact .inl ⟨rfl,rfl⟩
  ·injection e1 with e1 e2 e3
   subst e1 e3
   exact .inr ⟨g,cc,cur,rfl,hb,hg,by omega,hcm,hcs,by rw [<-htk,List.take_take,Nat.min_eq_left hmul]⟩
 ·rw [List.getElem?_take] at hx
  split at hx
  ·rename_i him
   obtain ⟨f,cs,hf,hr,hc⟩:=h4 i x hx
   refine ⟨f,cs,by rw [List.getElem?_take,if_pos him]; exact hf,hr,fun j d hd=>?_⟩
   have hj:j < t.rp.size:=by have:=t.rp.len hr; have:=(List.getElem?_eq_some_iff.1 hd).1; omega
   have:(i+1) * t.rp.size<=m * t.rp.size:=Nat.mul_le_mul_right _ him
   rw [List.getElem?_take,if_pos (by rw [Nat.add_mul] at this; omega)]
   exact hc j d hd
  ·cases hx
theorem aSlice_ok (hT:TabOK P T) {ty:TypeId} {x:Operand} {lo hi mx:Option Operand} (ho:o.op=.slice ty x lo hi mx) (h:aSlice P T lt lm K ty x lo hi mx):∃ e,K e/\SOK P c lt lm nx o e:=by
 unfold aSlice at h
 split at h
 ·rename_i e v hu hx
  split at h
  ·rename_i t s l ht hdat
   split at h
   ·rename_i za zb hza hzb
    obtain ⟨rfl,hss,h0,hab,hbl,hK⟩:=h
    have hK':K ⟨.sl s ((l.take zb.toNat).drop za.toNat),frzU lm v.rows,v.rows⟩\/∃ (k ver:Nat) (e:TypeId) (o:Bool),v=.row k ver/\za=0/\lm k=some (.row e s ver o l)/\K ⟨.row k (ver+1),[(k,.row e s (ver+1) s.flat (l.take zb.toNat))],[k]⟩:=by
     cases v with
     | row k ver =>
      rcases hK with hK|⟨hz,e,o,h1,h2⟩
      ·exact .inl hK
      ·exact .inr ⟨k,ver,e,o,rfl,hz,h1,h2⟩
     | _=>exact .inl hK
    clear hK
    rcases hK' with hK|⟨k,ver,te,oo,rfl,rfl,hk,hK⟩
    ·refine ⟨_,hK,fun p hp=>.inr (frzU_mem hp),fun σ Γ a w hs hl hm hn hd K' Q hK'=>?_⟩
     have hf':=hs.frz (ks:=v.rows)
     have hcongr:frzU (look σ.mem) v.rows=frzU lm v.rows:=frzU_congr fun k hk=>hm k hk
     rw [hcongr] at hf'
     have hv:=op_ev hf' hl (x:=x) (by simp [ho,Op.operands]) hx
     have hd':v.data (look (frzU lm v.rows++σ.mem))=some ⟨s,l⟩:=data_frz hdat hm
     obtain ⟨fp,hr,_,hgd⟩:=hf'.sliceRep (vrep_crep_data hv hdat) hd'
     obtain ⟨ad,cc,hva,hlc,_⟩:=slice_lt hr
     rw [hva] at hr
     obtain ⟨fp',hr',hsub⟩:=rep_cut hr (i:=za.toNat) (j:=zb.toNat) (by omega) (by omega)
     have hrun:=slice_run (s:=s) (hT e t ht) hss ho hu hs hl hva hlc hza hzb h0 hab hbl
     refine wp_value hrun (put_fin hK' hd hf' ?_ rfl rfl)
     refine ⟨fp',hr',fun b hb=>hgd (fun k ver e e' t' v' o' l' hk=>?_) b (hsub b hb)⟩
     subst e
     rw [<-hcongr] at hk
     exact (frz_no hk).1 (by simp [AV.rows])
    ·refine ⟨_,hK,fun p hp=>?_,fun σ Γ a w hs hl hm hn hd K' Q hK'=>?_⟩
     ·rw [List.mem_singleton] at hp; subst hp; exact .inr (List.mem_singleton.2 rfl)
     have hk':look σ.mem k=some (.row te s ver oo l):=(hm k (List.mem_singleton.2 rfl)).trans hk
     obtain ⟨h1,B,hB,hh⟩:=(op_ev hs hl (x:=x) (by simp [ho,Op.operands]) hx:VRep c σ.mem Γ w (.row k ver) (a.eval x))
     rw [hk'] at hB; injection hB with hB; subst hB
     have hu2:a.eval x=Γ.hd k:=hh.2 rfl
     obtain ⟨fps,hg,hf,hgds,_⟩:=hs.mm k _ hk'
     have hsh:∃ ad cc,Γ.hd k=.slice ad l.length cc/\l.length<=cc:=by
      obtain ⟨xs,⟨_,h2⟩,_⟩:=hg
      rcases h2 with ⟨h2,h5⟩|⟨g,cap,cur,e1,hb,hg,hc,_⟩
      ·exact ⟨none,0,by rw [h2,h5],by omega⟩
      ·exact ⟨_,cap,e1,hc⟩
     obtain ⟨ad,cc,hva,hlc⟩:=hsh
     rw [hva] at hu2
     have hrun:=slice_run (s:=s) (hT e t ht) hss ho hu hs hl hu2 hlc hza hzb (Int.le_refl _) hab hbl
     have he:(if cc=(0:Int).toNat then ad else ad.map (·.add ((0:Int).toNat * s.rp.size)))=ad:=by
      split
      ·rfl
      ·cases ad with
       | none=>rfl
       | some q=>simp [Addr.add]
     rw [he,show zb.toNat - (0:Int).toNat=zb.toNat by simp,show cc - (0:Int).toNat=cc by simp] at hrun
     have hg2:=hg
     rw [hva] at hg2
     have hgt:=growF_take hg2 (m:=zb.toNat) (by omega)
     have hs2:=hs.updRow (o':=s.flat) (ver':=ver+1) hk' hgt (w':=w) ⟨rfl,rfl,rfl,Nat.le_refl _,fun _ _ _=>rfl⟩ (.inl (by rw [hva]; cases ad<;>rfl)) (.inl rfl)
      (fun b hb=>by
       obtain ⟨f,hfm,hbf⟩:=List.mem_flatten.1 hb
       have hb':b ∈ fps.flatten:=List.mem_flatten.2 ⟨f,List.mem_of_mem_take hfm,hbf⟩
       exact ⟨hg.lt b hb',hgds b (hf ▸ hb')⟩)
      (fun hfl=>by rw [growF_flat hfl hgt]; exact ⟨ownFp_nil _ _,fun b hb=>by cases hb⟩)
     refine wp_value hrun (put_fin hK' hd hs2 ⟨rfl,_,look_self ..,Nat.le_refl _,fun _=>by rw [Asg.setR_hd]⟩ rfl rfl)
   ·exact h.elim
  ·exact h.elim
 ·exact h.elim
theorem growF_set {t:Ty} {base:Nat} {w:World} {e:TypeId} {g cap:Nat} {l:List t.den} {fps:List (List Nat)} (h:GrowF t.rp base w e (.slice (some ⟨g,0,none⟩) l.length cap) l fps) {i:Nat} (hi:i < l.length) {x:t.den} {cs:List Value} {f:List Nat} (hr:t.rp.rep w cs x f)
  (hf:∀ b ∈ f,b ≠ g) (hfs:∀ b ∈ fps.flatten,b ≠ g):GrowF t.rp base (putCells w g (i * t.rp.size) cs) e (.slice (some ⟨g,0,none⟩) l.length cap) (l.set i x) (fps.set i f):=by
 obtain ⟨xs,ho,hfl,he⟩:=h
 obtain ⟨hxl,h2⟩:=ho
 rcases h2 with ⟨h2,_⟩|⟨g',cap',cur,hv,hbg,hg,h1',h2',h3',h4'⟩
 ·cases h2
 injection hv with hv _ hcap
 injection hv with hv; injection hv with hv
 subst hv hcap
 have hcl:=t.rp.len hr
 have hmul:(i+1) * t.rp.size<=l.length * t.rp.size:=Nat.mul_le_mul_right _ hi
 have hmul2:l.length * t.rp.size<=cap * t.rp.size:=Nat.mul_le_mul_right _ h1'
 have hs1:(i+1) * t.rp.size=i * t.rp.size+t.rp.size:=Nat.succ_mul _ _
 obtain ⟨cur',g1,g2,g3,g4⟩:=putCells_row g e cs w (i * t.rp.size) cur hg (by omega)
 have hoth:∀ b,b ≠ g->(putCells w g (i * t.rp.size) cs).heap[b]? = w.heap[b]?:=fun b hb=>putCells_other g cs w _ b hb
 refine ⟨cur'.toList.take (l.length * t.rp.size),⟨by rw [List.length_take,List.length_set,show cur'.toList.length=cur'.size from Array.length_toList,g2,h3']; exact Nat.min_eq_left hmul2,.inr ⟨g,cap,cur',by rw [List.length_set],hbg,g1,by rw [List.length_set]; exact h1',h2',g2.trans h3',by rw [List.length_set]⟩⟩,by simp [hfl],fun j y hy=>?_⟩
 by_cases hij:i=j
 ·subst hij
  rw [List.getElem?_set_self hi] at hy
  injection hy with hy
  subst hy
  refine ⟨f,cs,by rw [List.getElem?_set_self (by omega)],t.rp.frame hr fun b hb=>hoth b (hf b hb),fun q d hd=>?_⟩
  have hq:=(List.getElem?_eq_some_iff.1 hd).1
  rw [List.getElem?_take,if_pos (by omega),Array.getElem?_toList]
  exact g3 q d hd
 ·rw [List.getElem?_set_ne hij] at hy
  obtain ⟨f',cs',hf',hr',hc'⟩:=he j y hy
  have hj:=(List.getElem?_eq_some_iff.1 hy).1
  refine ⟨f',cs',by rw [List.getElem?_set_ne hij]; exact hf',t.rp.frame hr' fun b hb=>hoth b (hfs b (List.mem_flatten.2 ⟨f',List.mem_of_getElem? hf',hb⟩)),fun q d hd=>?_⟩
  have hq:q < t.rp.size:=by rw [<-t.rp.len hr']; exact (List.getElem?_eq_some_iff.1 hd).1
  have hmj:(j+1) * t.rp.size<=l.length * t.rp.size:=Nat.mul_le_mul_right _ hj
  have hsj:(j+1) * t.rp.size=j * t.rp.size+t.rp.size:=Nat.succ_mul _ _
  have:=hc' q d hd
  rw [<-h4',List.getElem?_take,if_pos (by omega),Array.getElem?_toList] at this
  rw [List.getElem?_take,if_pos (by omega),Array.getElem?_toList,g4 _ ?_]
  ·exact this
  ·rcases Nat.lt_or_gt_of_ne hij with hlt|hlt
   ·have:=Nat.mul_le_mul_right t.rp.size (show i+1<=j from hlt); omega
   ·have:=Nat.mul_le_mul_right t.rp.size (show j+1<=i from hlt); omega
theorem nodup_set {fp:List Nat}:∀ {fps:List (List Nat)} {i:Nat},fps.flatten.Nodup->fp.Nodup->(∀ b ∈ fp,b ∉ fps.flatten)->(fps.set i fp).flatten.Nodup
 | [],_,_,_,_=>by simp
 | f :: fps,0,h,hf,hd=>by
  rw [List.flatten_cons,List.nodup_append] at h
  rw [List.set_cons_zero,List.flatten_cons,List.nodup_append]
  exact ⟨hf,h.2.1,fun b hb b' hb' e=>hd b hb (by rw [List.flatten_cons,List.mem_append,e]; exact .inr hb')⟩
 | f :: fps,i+1,h,hf,hd=>by
  rw [List.flatten_cons,List.nodup_append] at h
  rw [List.set_cons_succ,List.flatten_cons,List.nodup_append]
  refine ⟨h.1,nodup_set h.2.1 hf fun b hb hb'=>hd b hb (by rw [List.flatten_cons,List.mem_append]; exact .inr hb'),fun b hb b' hb' e=>?_⟩
  subst e
  obtain ⟨g,hg,hbg⟩:=List.mem_flatten.1 hb'
  rcases List.mem_or_eq_of_mem_set hg with hg|rfl
  ·exact h.2.2 b hb b (List.mem_flatten.2 ⟨g,hg,hbg⟩) rfl
  ·exact hd b hbg (by rw [List.flatten_cons,List.mem_append]; exact .inl hb)
theorem aStoreRow_ok (hT:TabOK P T) {ty:TypeId} {x y:Operand} (ho:o.op=.store ty x y) (h:aStoreRow T lt lm K ty x y):∃ e,K e/\SOK P c lt lm nx o e:=by
 unfold aStoreRow at h
 split at h
 ·rename_i t k ver i off v ht hx hy
  split at h
  ·rename_i e s vv oo l hk
   obtain ⟨rfl,rfl,hss,hi,hok,hkv,h⟩:=h
   split at h
   rotate_left
   ·exact h.elim
   rename_i x' hx'
   have his:=rdC_is hx'
   have hK:=h
   refine ⟨_,hK,fun p hp=>?_,fun σ Γ a w hs hl hm hn hd K' Q hK'=>?_⟩
   ·rcases List.mem_cons.1 hp with rfl|hp
    ·exact .inr List.mem_cons_self
    ·exact .inr (List.mem_cons_of_mem _ (frzU_mem hp))
   have hmr:∀ j ∈ v.rows,look σ.mem j=lm j:=fun j hj=>hm j (List.mem_cons_of_mem _ hj)
   have hf':=hs.frz (ks:=v.rows)
   have hcongr:frzU (look σ.mem) v.rows=frzU lm v.rows:=frzU_congr fun k hk=>hmr k hk
   rw [hcongr] at hf'
   have hk0:=(hm k List.mem_cons_self).trans hk
   have hk':look (frzU lm v.rows++σ.mem) k=some (.row e s vv oo l):=by
    have:look (frzU lm v.rows) k=none:=by
     cases hq:look (frzU lm v.rows) k with
     | none=>rfl
     | some B=>obtain ⟨q,hq1,hq2⟩:=look_mem hq; exact absurd (hq2 ▸ frzU_mem hq1) hkv
    rw [look_app,this,hk0]; rfl
   have hvr:=op_ev hf' hl (x:=y) (by simp [ho,Op.operands]) hy
   have hvc:=hvr.cells hok
   have hrows:∀ k' ver',AV.row k' ver' ∈ cellsOf v->k' ∈ v.rows:=by
    intro k' ver' hkk
    cases v with
    | agg cs=>exact mem_cellRows hkk
    | row k2 v2 =>
     have:AV.row k' ver'=.row k2 v2:=List.mem_singleton.1 hkk
     injection this with e1 e2
     simp [AV.rows,e1]
    | _=>have:=List.mem_singleton.1 hkk; cases this
   have his':Is (look (frzU lm v.rows++σ.mem)) s x' (cellsOf v):=by
    refine Is_congr (fun j hj=>?_) his
    obtain ⟨q,hq1,hq2⟩:=List.mem_flatMap.1 hj
    have hjr:j ∈ v.rows:=by
     cases q<;>simp at hq2
     subst hq2
     exact hrows _ _ hq1
    show look (frzU lm v.rows++σ.mem) j=(look (frzU lm v.rows) j).or (lm j)
    rw [look_app,hmr j hjr]
   have hcore:∃ fp,s.rp.rep w (a.eval y).cells.toList x' fp/\(∀ b ∈ fp,Gd c (frzU lm v.rows++σ.mem) Γ b) ∧
     (ownV lm [v]=true->OwnFp c.base w fp/\∀ b ∈ fp,∀ j B,look (frzU lm v.rows++σ.mem) j=some B->b ∉ B.ofp Γ j):=by
    by_cases hov:ownV lm [v]=true
    ·have hc0:=(op_ev hs hl (x:=y) (by simp [ho,Op.operands]) hy:VRep c σ.mem Γ w v (a.eval y)).cells hok
     have hovL:∀ u ∈ cellsOf v,OwnL lm u=true:=by
      simp only [ownV,Bool.and_eq_true] at hov
      exact fun u hu=>List.all_eq_true.1 (List.all_eq_true.1 hov.1 v (by simp)) u hu
     rw [<-ownV_congr (lm:=lm) (lm':=look σ.mem) (by simp [hok]) (fun k hk=>hmr k (by simpa using hk))] at hov
     have hov2:=hov
     simp only [ownV,Bool.and_eq_true,decide_eq_true_eq,List.all_cons,List.all_nil,Bool.and_true,List.flatMap_cons,List.flatMap_nil,List.append_nil] at hov2
     have hi1:Is (look σ.mem) s x' (cellsOf v):=Is_congr (fun j hj=>by
       rw [rows_cells hok] at hj
       exact hmr j hj) (Is_data (fun u hu=>(data_lmF lm _ false u (own_nm (hovL u hu))).symm) his)
     obtain ⟨fp,r1,r2,r3⟩:=ownV_cells hs hc0 hi1 hov2.1 hov2.2
     have hfree:∀ b ∈ fp,∀ j B,look (frzU lm v.rows++σ.mem) j=some B->¬ B.mut Γ j b/\b ∉ B.ofp Γ j:=by
      intro b hb j B hj
      obtain ⟨k,hk,hh,hlv⟩:=r3 b hb
      rw [rows_cells hok] at hk
      rw [<-hcongr] at hj
      exact frz_free hs hk hlv hh hj
     exact ⟨fp,r1,fun b hb=>⟨.inr (r2.2 b hb).1,fun ⟨j,B,hj,hmu⟩=>(hfree b hb j B hj).1 hmu⟩,fun _=>⟨r2,fun b hb j B hj=>(hfree b hb j B hj).2⟩⟩
    ·obtain ⟨fp,hr,_,hgd⟩:=hf'.isRep hvc his'
     have hgd:=hgd fun k' ver' hkk e t v' o' l' hrow=>by
      rw [<-hcongr] at hrow
      exact (frz_no hrow).1 (hrows k' ver' hkk)
     exact ⟨fp,hr,hgd,fun h=>absurd h hov⟩
   obtain ⟨fp,hr,hgd,hown⟩:=hcore
   obtain ⟨fps,hg,hf,hgds,hog⟩:=hf'.mm k _ hk'
   obtain ⟨_,B,hB,hp⟩:=(op_ev hf' hl (x:=x) (by simp [ho,Op.operands]) hx:VRep c _ Γ w _ (a.eval x))
   rw [hk'] at hB; injection hB with hB; subst hB
   obtain ⟨_,hp⟩:=hp e s vv oo l rfl
   obtain ⟨g,n,cap,hhd,hpt⟩:=hp rfl
   have hnl:n=l.length:=by
    obtain ⟨_,_,_,e1,_⟩:=growF_rows hg
    rw [hhd] at e1; injection e1
   subst hnl
   rw [hhd] at hg
   have hmutg:Mut (frzU lm v.rows++σ.mem) Γ g:=⟨k,_,hk',by show (Γ.hd k).ownBlock=some g; rw [hhd]; rfl⟩
   have hng:∀ b,Gd c (frzU lm v.rows++σ.mem) Γ b->b ≠ g:=fun b hb e=>hb.2 (e ▸ hmutg)
   have hset:=growF_set hg hi hr (fun b hb=>hng b (hgd b hb)) (fun b hb=>hng b (hgds b (hf ▸ hb)))
   have hgr:w.grownBy (putCells w g (i * s.rp.size) (a.eval y).cells.toList) (Γ.hd k).ownBlock:=by
    have hb:=putCells_below (B:=0) (w0:=w) g (a.eval y).cells.toList w (i * s.rp.size) (Below.refl _ _) (Nat.zero_le _)
    exact ⟨hb.os,hb.tape,hb.output,hb.size,fun b _ hne=>putCells_other _ _ _ _ _ (fun e=>hne (by rw [hhd,e]; rfl))⟩
   have hall:∀ b ∈ (fps.set i fp).flatten,b < w.heap.size/\Gd c (frzU lm v.rows++σ.mem) Γ b:=by
    intro b hb
    obtain ⟨f,hfm,hbf⟩:=List.mem_flatten.1 hb
    rcases List.mem_or_eq_of_mem_set hfm with hfm|rfl
    ·have:b ∈ fps.flatten:=List.mem_flatten.2 ⟨f,hfm,hbf⟩
     exact ⟨hg.lt b this,hgds b (hf ▸ this)⟩
    ·exact ⟨s.rp.lt hr b hbf,hgd b hbf⟩
   have hs2:=hf'.updRow (v':=.slice (some ⟨g,0,none⟩) l.length cap) (ver':=vv) (o':=s.flat || (oo && ownV lm [v])) hk' hset hgr (.inl (by rw [hhd])) (.inr ⟨rfl,hhd.symm⟩) hall
    (fun hfl=>by
     by_cases hfs:s.flat=true
     ·rw [growF_flat hfs hset]; exact ⟨ownFp_nil _ _,fun b hb=>by cases hb⟩
     simp only [Bool.not_eq_true] at hfs
     rw [hfs,Bool.false_or,Bool.and_eq_true] at hfl
     obtain ⟨rfl,hov⟩:=hfl
     obtain ⟨hw1,hw2⟩:=hown hov
     have hw0:=hog rfl
     rw [hf] at hw0
     refine ⟨ownFp_frame (w:=w) ⟨nodup_set hw0.1 hw1.1 fun b hb hb'=>hw2 b hb k _ hk' (by simp only [Blk.ofp]; rw [hf]; exact hb'),fun b hb=>?_⟩ fun b hb=>putCells_other _ _ _ _ _ (hng b (hall b hb).2),fun b hb j B hjk hj=>?_⟩
     ·obtain ⟨f,hfm,hbf⟩:=List.mem_flatten.1 hb
      rcases List.mem_or_eq_of_mem_set hfm with hfm|rfl
      ·exact hw0.2 b (List.mem_flatten.2 ⟨f,hfm,hbf⟩)
      ·exact hw1.2 b hbf
     ·obtain ⟨f,hfm,hbf⟩:=List.mem_flatten.1 hb
      rcases List.mem_or_eq_of_mem_set hfm with hfm|rfl
      ·exact hf'.disj k j _ B b hk' hj (Ne.symm hjk) (by simp only [Blk.ofp]; rw [hf]; exact List.mem_flatten.2 ⟨f,hfm,hbf⟩)
      ·exact hw2 b hbf j B hj)
   have hrun:(execOp a.eval o).run P w=.ok .skip (putCells w g (i * s.rp.size) (a.eval y).cells.toList):=by
    obtain ⟨xs,ho2,_,_⟩:=hg
    rcases ho2.2 with ⟨h2,_⟩|⟨g',cap',cur,hv,hbg,hgg,h1',h2',h3',h4'⟩
    ·cases h2
    injection hv with hv _ hcap
    injection hv with hv; injection hv with hv
    subst hv hcap
    have hcl:=s.rp.len hr
    have hmul:(i+1) * s.rp.size<=l.length * s.rp.size:=Nat.mul_le_mul_right _ hi
    have hmul2:l.length * s.rp.size<=cap * s.rp.size:=Nat.mul_le_mul_right _ h1'
    have hs1:(i+1) * s.rp.size=i * s.rp.size+s.rp.size:=Nat.succ_mul _ _
    have hst:=run_storeCells' (P:=P) g (a.eval y).cells.toList 0 (i * s.rp.size) w (fun j hj=>⟨cur[i * s.rp.size+j]'(by omega),by rw [cell_of_row w _ _ cur e (0,0) hgg,Nat.add_zero,Array.getElem?_eq_getElem]⟩) (fun oo=>frozen_of_row w _ oo cur e hgg) (s.rp.one hr)
    have hsz:(a.eval y).cells.size=t.size:=by
     have:=s.rp_size
     simp only [Array.length_toList] at hcl; omega
    rw [Nat.add_zero] at hpt
    simp only [execOp,ho,hpt,Instr.storeAt,Instr.sureAddr,storeVar,Sem.run_bind,Sem.run_pure,Result.andThen_ok,(hT ty t ht).sizeOf,hsz,ne_eq,not_true_eq_false,if_false]
    rw [hst]; rfl
   exact wp_skip' hrun (put_fin (u:=undef) hK' hd hs2 trivial rfl rfl)
  ·exact h.elim
 ·exact h.elim
def NilW (K:Eff->Prop) (p:Prop) (rd:List Nat) (neg:Bool):Prop:=(¬ p/\K ⟨.sc (.bool neg),[],rd⟩)\/K ⟨if neg then .nb True p else .nb p True,[],rd⟩
def aNil (P:Program) (lt:Nat->Option AV) (lm:Nat->Option Blk) (K:Eff->Prop) (op:BinOp) (ty:TypeId) (x:Operand):Prop :=
 isSl (P.underlying ty)=true ∧
 match ev lt x with
 | some (.sc (.slice none 0 0)) =>
  match op with
  | .eql=>K (.val (.sc (.bool true)))
  | .neq=>K (.val (.sc (.bool false)))
  | _=>False
 | some v =>
  match v.data lm with
  | some ⟨_,l⟩ =>
   match op with
   | .eql=>NilW K (l=[]) v.rows false
   | .neq=>NilW K (l=[]) v.rows true
   | _=>False
  | none=>False
 | none=>False
theorem nil_guard {ty e:TypeId} {op:BinOp} {x:Operand} {a:Option Addr} {n c0:Nat} {w:World} (hu:P.underlying ty=some (.slice e)):(eqGuard op ty x (.const (.slice none 0 0)) (.slice a n c0) (.slice none 0 0)).run P w=.ok () w:=by
 cases op<;>simp [eqGuard,run_underlying hu,Program.eqGuardType,hu]
 all_goals (split<;>simp_all)
theorem aNil_ok {op:BinOp} {ty ty2:TypeId} {x:Operand} (ho:o.op=.binOp op ty x (.const (.slice none 0 0)) ty2) (h:aNil P lt lm K op ty x):∃ e,K e/\SOK P c lt lm nx o e:=by
 unfold aNil at h
 obtain ⟨hsl,h⟩:=h
 obtain ⟨el,hu⟩:=isSl_ex hsl
 have hrun:∀ (ac:Act) (w:World) (a:Option Addr) (n c0:Nat) (b:Bool),ac.eval x=.slice a n c0->(op=.eql/\b=a.isNone\/op=.neq/\b=!a.isNone)->(execOp ac.eval o).run P w=.ok (.value (.bool b)) w:=by
  intro ac w a n c0 b hx hb
  have hc:ac.eval (.const (.slice none 0 0))=.slice none 0 0:=rfl
  rcases hb with ⟨rfl,rfl⟩|⟨rfl,rfl⟩
  ·simp only [execOp,ho,hx,hc,Sem.run_bind,nil_guard hu,Result.andThen_ok,binOp,run_equal_slice_nil w ty el a n c0 hu,Sem.run_pure]
  ·simp only [execOp,ho,hx,hc,Sem.run_bind,nil_guard hu,Result.andThen_ok,run_neq_slice_nil w ty el a n c0 hu,Sem.run_pure]
 split at h
 ·rename_i hx
  split at h
  ·refine ⟨_,h,SOK.pure fun σ Γ ac w hs hl _=>⟨.bool true,?_,rfl,rfl,trivial⟩⟩
   have e1:ac.eval x=_:=(op_ev hs hl (by simp [ho,Op.operands]) hx:VRep c σ.mem Γ w _ (ac.eval x)).1
   exact hrun ac w none 0 0 true e1 (.inl ⟨rfl,rfl⟩)
  ·refine ⟨_,h,SOK.pure fun σ Γ ac w hs hl _=>⟨.bool false,?_,rfl,rfl,trivial⟩⟩
   have e1:ac.eval x=_:=(op_ev hs hl (by simp [ho,Op.operands]) hx:VRep c σ.mem Γ w _ (ac.eval x)).1
   exact hrun ac w none 0 0 false e1 (.inr ⟨rfl,rfl⟩)
  ·exact h.elim
 ·rename_i v hnot hx
  split at h
  ·rename_i t l hd
   have key:∀ (σ:St) (Γ:Asg) (ac:Act) (w:World),Sim c σ Γ ac w->(∀ t ∈ opnds o,look σ.tmps t=lt t)->(∀ k ∈ v.rows,look σ.mem k=lm k)->∃ ad cc,ac.eval x=.slice ad l.length cc/\(ad=none->l=[]):=by
    intro σ Γ ac w hs hl hm
    obtain ⟨ad,cc,css,fps,h1,_,_,h4,_⟩:=data_rows hs (op_ev hs hl (by simp [ho,Op.operands]) hx) hm hd
    exact ⟨ad,cc,h1,h4⟩
   split at h
   ·rcases h with ⟨hp,hK⟩|hK
    ·refine ⟨_,hK,SOK.pure fun σ Γ ac w hs hl hm=>?_⟩
     obtain ⟨ad,cc,h1,h2⟩:=key σ Γ ac w hs hl hm
     cases ad with
     | none=>exact absurd (h2 rfl) hp
     | some a=>exact ⟨.bool false,hrun ac w _ _ _ _ h1 (.inl ⟨rfl,rfl⟩),rfl,rfl,trivial⟩
    ·refine ⟨_,hK,SOK.pure fun σ Γ ac w hs hl hm=>?_⟩
     obtain ⟨ad,cc,h1,h2⟩:=key σ Γ ac w hs hl hm
     refine ⟨.bool ad.isNone,hrun ac w _ _ _ _ h1 (.inl ⟨rfl,rfl⟩),_,rfl,fun hb=>?_,fun _=>trivial⟩
     cases ad with
     | none=>exact h2 rfl
     | some a=>cases hb
   ·rcases h with ⟨hp,hK⟩|hK
    ·refine ⟨_,hK,SOK.pure fun σ Γ ac w hs hl hm=>?_⟩
     obtain ⟨ad,cc,h1,h2⟩:=key σ Γ ac w hs hl hm
     cases ad with
     | none=>exact absurd (h2 rfl) hp
     | some a=>exact ⟨.bool true,hrun ac w _ _ _ _ h1 (.inr ⟨rfl,rfl⟩),rfl,rfl,trivial⟩
    ·refine ⟨_,hK,SOK.pure fun σ Γ ac w hs hl hm=>?_⟩
     obtain ⟨ad,cc,h1,h2⟩:=key σ Γ ac w hs hl hm
     refine ⟨.bool (!ad.isNone),hrun ac w _ _ _ _ h1 (.inr ⟨rfl,rfl⟩),_,rfl,fun _=>trivial,fun hb=>?_⟩
     cases ad with
     | none=>exact h2 rfl
     | some a=>cases hb
   ·exact h.elim
  ·exact h.elim
 ·exact h.elim
theorem evs2 {σ:St} {Γ:Asg} {ac:Act} {w:World} (hs:Sim c σ Γ ac w) {xs:List Operand} {u v:Value} (hl:∀ x ∈ xs,∀ t,x=.tmp t->look σ.tmps t=lt t) (h:evs lt xs=some [.sc u,.sc v]):xs.map ac.eval=[u,v]/\okv u/\okv v:=by
 have h2:=evs_rep hs hl h (by rfl)
 match xs,h2 with
 | [x,y],⟨h1,h2,_⟩=>exact ⟨by rw [List.map_cons,List.map_cons,h1.1,h2.1]; rfl,h1.2.2,h2.2.2⟩
theorem aMin_ok {xs:Array Operand} {tys:Array TypeId} (ho:o.op=.call { callee:=.builtin .min,args:=xs,argTypes:=tys }) (h:aMin lt K xs):∃ e,K e/\SOK P c lt lm nx o e:=by
 unfold aMin at h
 split at h
 ·rename_i a b he
  refine ⟨_,h,SOK.pure fun σ Γ ac w hs hl _=>?_⟩
  obtain ⟨e1,o1,o2⟩:=evs2 hs (fun x hx t e=>hl t (mem_opnds (x:=x) (by simp only [ho,Op.operands,Call.operands]; simpa using hx) e)) he
  have e2:xs.map ac.eval=#[.int .i64 a,.int .i64 b]:=Array.toList_inj.1 (by rw [Array.toList_map,e1])
  refine ⟨.int .i64 (min a b),?_,rfl,rfl,?_⟩
  ·have hm:(if b < a then b else a)=min a b:=by split<;>omega
   simp [execOp,ho,resolve,invoke,builtin,e2,Builtin.min_,Builtin.min2,Result.andThen,hm]
  ·show I64 (min a b)
   rcases Int.le_total a b with h|h
   ·rw [Int.min_eq_left h]; exact o1
   ·rw [Int.min_eq_right h]; exact o2
 ·exact h.elim
theorem aMax_ok {xs:Array Operand} {tys:Array TypeId} (ho:o.op=.call { callee:=.builtin .max,args:=xs,argTypes:=tys }) (h:aMax lt K xs):∃ e,K e/\SOK P c lt lm nx o e:=by
 unfold aMax at h
 split at h
 ·rename_i a b he
  refine ⟨_,h,SOK.pure fun σ Γ ac w hs hl _=>?_⟩
  obtain ⟨e1,o1,o2⟩:=evs2 hs (fun x hx t e=>hl t (mem_opnds (x:=x) (by simp only [ho,Op.operands,Call.operands]; simpa using hx) e)) he
  have e2:xs.map ac.eval=#[.int .i64 a,.int .i64 b]:=Array.toList_inj.1 (by rw [Array.toList_map,e1])
  refine ⟨.int .i64 (max a b),?_,rfl,rfl,?_⟩
  ·have hm:(if b > a then b else a)=max a b:=by split<;>omega
   simp [execOp,ho,resolve,invoke,builtin,e2,Builtin.max_,Builtin.max2,Result.andThen]
   omega
  ·show I64 (max a b)
   rcases Int.le_total a b with h|h
   ·rw [Int.max_eq_right h]; exact o2
   ·rw [Int.max_eq_left h]; exact o1
 ·exact h.elim
end
end Go.Proofs.YtaflkgjckmfkoaaGreat.DW

namespace Go.Proofs.YtaflkgjckmfkoaaGreat.DW
open Go.RowKit
def capD:(A:Ty)->A.den->List Dat
 | .prod A B,x=>capD A x.1++capD B x.2
 | t,x=>[⟨t,x⟩]
def CapOK (lm:Nat->Option Blk):(A:Ty)->A.den->List Nat->Prop
 | .prod A B,x,ks=>CapOK lm A x.1 (ks.take A.size)/\CapOK lm B x.2 (ks.drop A.size)
 | .ext .ref t,some y,[k]=>match lm k with
  | some (.bx _ cs)=>Is lm t y cs
  | _=>False
 | _,_,_=>False
def boxRows (lm:Nat->Option Blk) (k:Nat):List Nat:=match lm k with
 | some (.bx _ cs)=>k :: cellRows cs
 | _=>[k]
def rdK (lm:Nat->Option Blk):AV->List Nat
 | .clb _ ks=>ks.flatMap (boxRows lm)
 | v=>v.rows
def IsClo (lm:Nat->Option Blk):(t:Ty)->t.den->FuncId->List Nat->Prop
 | .ext (.clo g) A,some x,f,ks=>g=f/\CapOK lm A x ks
 | _,_,_,_=>False
theorem isClo_ex {lm:Nat->Option Blk}:∀ {d:Dat} {f:FuncId} {ks:List Nat},IsClo lm d.1 d.2 f ks->∃ (A:Ty) (x:A.den),d=⟨.ext (.clo f) A,some x⟩/\CapOK lm A x ks
 | ⟨.ext (.clo g) A,some x⟩,f,ks,h=>by obtain ⟨rfl,h⟩:=h; exact ⟨A,x,rfl,h⟩
 | ⟨.ext (.clo g) A,none⟩,f,ks,h=>h.elim
 | ⟨.ext .ref _,_⟩,_,_,h=>h.elim
 | ⟨.ext .opq _,_⟩,_,_,h=>h.elim
 | ⟨.int,_⟩,_,_,h=>h.elim
 | ⟨.bool,_⟩,_,_,h=>h.elim
 | ⟨.str,_⟩,_,_,h=>h.elim
 | ⟨.u8,_⟩,_,_,h=>h.elim
 | ⟨.cst _,_⟩,_,_,h=>h.elim
 | ⟨.prod _ _,_⟩,_,_,h=>h.elim
 | ⟨.slice _,_⟩,_,_,h=>h.elim
def IsC (lm:Nat->Option Blk) (d:Dat):AV->Prop
 | .clb f ks=>IsClo lm d.1 d.2 f ks
 | v=>IsV lm d v
section
variable (P:Program) (T:TypeId->Option Ty) (lt:Nat->Option AV) (lm:Nat->Option Blk) (nx:Nat) (K:Eff->Prop)
def aNilChk (x:Operand):Prop :=
 match ev lt x with
 | some (.ptr k off)=>K (.val (.ptr k off))
 | some (.ref t y off)=>K (.val (.ref t y off))
 | _=>False
def evPtrs (lt:Nat->Option AV):List Operand->Option (List Nat)
 | []=>some []
 | x :: xs=>match ev lt x,evPtrs lt xs with
  | some (.ptr k 0),some ks=>some (k :: ks)
  | _,_=>none
def aMakeClo (fn:_root_.Go.Fn) (c:List Operand):Prop :=
 match fn,evPtrs lt c with
 | .func f,some ks=>K (.val (.clb f ks))
 | _,_=>False
def aIndexArr (n:Nat) (e:TypeId) (x y:Operand):Prop :=
 match T e,ev lt x,ev lt y with
 | some t,some (.ptr k off),some (.sc (.int .i64 z))=>0<=z/\z < n/\K (.val (.ptr k (off+z.toNat * t.size)))
 | some t,some (.ref s q off),some (.sc (.int .i64 z))=>0<=z/\z < n/\K (.val (.ref s q (off+z.toNat * t.size)))
 | _,_,_=>False
def aBuildArr (ty:TypeId) (parts:Array (Nat × Operand)):Prop :=
 match T ty with
 | some t=>parts.toList=[]/\t.isAgg=true/\K (.val (.agg (zcl t)))
 | none=>False
def aMakeMap (r:Option Operand):Prop:=r=none/\K (.val (.ex .opq .int (some 0)))
def CallD (f:FuncId) (A:Ty) (x:A.den) (vs:List AV):Prop:=∃ (args:List Dat) (d:Dat),Fn P f (args++capD A x) false [d]/\d.1.flat=true/\All2 (fun v d=>IsV lm d v) vs args/\K ⟨av d.1 d.2,[],vs.flatMap AV.rows⟩
def CallK (f:FuncId) (vs:List AV):Prop:=∃ (args:List Dat) (d:Dat),Fn P f args false [d]/\d.1.flat=true/\All2 (fun v d=>IsC lm d v) vs args/\K ⟨av d.1 d.2,[],vs.flatMap (rdK lm)⟩
def hasClb:List AV->Bool
 | []=>false
 | .clb _ _ :: _=>true
 | _ :: vs=>hasClb vs
def aCall2 (fop:Operand) (xs:Array Operand):Prop :=
 match ev lt fop,evs lt xs.toList with
 | some (.ex (.clo f) A (some x)),some vs=>vs.all AV.ok=true/\CallD P lm K f A x vs
 | some (.sc (.func (.func f) fi ca)),some vs=>if hasClb vs=true then fi=#[]/\ca=#[]/\vs.all AV.ok=true/\CallK P lm K f vs else aCall P lt lm nx K fop xs
 | _,_=>False
end
section
variable {P:Program} {T:TypeId->Option Ty} {c:Cx} {lt:Nat->Option AV} {lm:Nat->Option Blk} {nx:Nat} {K:Eff->Prop} {o:Oper}
theorem aNilChk_ok {x:Operand} (ho:o.op=.nilCheck x) (h:aNilChk lt K x):∃ e,K e/\SOK P c lt lm nx o e:=by
 unfold aNilChk at h
 split at h
 ·rename_i k off hx
  refine ⟨_,h,SOK.pure fun σ Γ a w hs hl _=>?_⟩
  have hv:VRep c σ.mem Γ w (.ptr k off) (a.eval x):=op_ev hs hl (by simp [ho,Op.operands]) hx
  obtain ⟨xo,cs,hc,e⟩:=hv
  exact ⟨a.eval x,by simp [execOp,ho,e],xo,cs,hc,e⟩
 ·rename_i t y off hx
  refine ⟨_,h,SOK.pure fun σ Γ a w hs hl _=>?_⟩
  have hv:VRep c σ.mem Γ w (.ref t y off) (a.eval x):=op_ev hs hl (by simp [ho,Op.operands]) hx
  have hv':=hv
  obtain ⟨b,oo,cs,fp,e,_⟩:=hv'
  exact ⟨a.eval x,by simp [execOp,ho,e],hv⟩
 ·exact h.elim
theorem evPtrs_rep {σ:St} {Γ:Asg} {a:Act} {w:World} (hs:Sim c σ Γ a w):∀ {xs:List Operand} {ks:List Nat},(∀ x ∈ xs,∀ t,x=.tmp t->look σ.tmps t=lt t)->evPtrs lt xs=some ks →
  All2 (PtrK σ.mem Γ) ks (xs.map a.eval)
 | [],ks,_,h=>by injection h with h; subst h; trivial
 | x :: xs,ks,hl,h=>by
  simp only [evPtrs] at h
  split at h
  ·rename_i k ks' hx hks
   injection h with h; subst h
   have h1:=evPtrs_rep hs (fun y hy=>hl y (List.mem_cons_of_mem _ hy)) hks
   have hv:VRep c σ.mem Γ w (.ptr k 0) (a.eval x):=ev_rep hs (hl x List.mem_cons_self) hx
   exact ⟨hv,h1⟩
  ·cases h
theorem aMakeClo_ok {fn:_root_.Go.Fn} {f cc:Array Operand} (ho:o.op=.makeFunc fn f cc) (hf:f=#[]) (h:aMakeClo lt K fn cc.toList):∃ e,K e/\SOK P c lt lm nx o e:=by
 subst hf
 unfold aMakeClo at h
 split at h
 ·rename_i g ks hks
  refine ⟨_,h,SOK.pure fun σ Γ a w hs hl _=>?_⟩
  have h1:=evPtrs_rep hs (fun x hx t e=>hl t (mem_opnds (by simp only [ho,Op.operands]; simp; simpa using hx) e)) hks
  refine ⟨.func (.func g) #[] (cc.toList.map a.eval).toArray,?_,_,rfl,h1⟩
  have:cc.map a.eval=(cc.toList.map a.eval).toArray:=Array.toList_inj.1 (by rw [Array.toList_map])
  simp only [execOp,ho,Instr.makeFunc,Sem.run_bind,Sem.run_pure,Result.andThen_ok,this]
  simp
 ·exact h.elim
theorem aIndexArr_ok (hT:TabOK P T) {ty e:TypeId} {n:Nat} {x y:Operand} (hu:P.underlying ty=some (.array n e)) (ho:o.op=.indexAddr ty x y) (h:aIndexArr T lt K n e x y):∃ e,K e/\SOK P c lt lm nx o e:=by
 unfold aIndexArr at h
 have key:∀ (t:Ty) (b off:Nat) (z:Int) (a:Act) (w:World),T e=some t->a.eval x=.pointer (some ⟨b,off,none⟩)->a.eval y=.int .i64 z->0<=z->z < n->(execOp a.eval o).run P w=.ok (.value (.pointer (some ⟨b,off+z.toNat * t.size,none⟩))) w:=by
  intro t b off z a w ht e1 e2 h0 hz
  have hsz:=(hT e t ht).sizeOf w
  simp only [execOp,ho,e1,e2,Instr.indexAt,Instr.sureAddr,asIntOf,Sem.run_bind,Sem.run_pure,Result.andThen_ok,run_underlying hu,hsz]
  rw [if_pos ⟨h0,hz⟩]
  simp only [Sem.run_bind,Sem.run_pure,Result.andThen_ok,addr_add,hsz]
 split at h
 ·rename_i t k off z ht hx hy
  obtain ⟨h0,hz,hK⟩:=h
  refine ⟨_,hK,SOK.pure fun σ Γ a w hs hl _=>?_⟩
  obtain ⟨xo,cs,hc,e1⟩:=(op_ev hs hl (by simp [ho,Op.operands]) hx:VRep c σ.mem Γ w _ (a.eval x))
  have e2:a.eval y=_:=(op_ev hs hl (by simp [ho,Op.operands]) hy:VRep c σ.mem Γ w _ (a.eval y)).1
  exact ⟨_,key t _ _ z a w ht e1 e2 h0 hz,xo,cs,hc,rfl⟩
 ·rename_i t s q off z ht hx hy
  obtain ⟨h0,hz,hK⟩:=h
  refine ⟨_,hK,SOK.pure fun σ Γ a w hs hl _=>?_⟩
  obtain ⟨b,oo,cs,fp,e1,hr,hrest⟩:=(op_ev hs hl (by simp [ho,Op.operands]) hx:VRep c σ.mem Γ w _ (a.eval x))
  have e2:a.eval y=_:=(op_ev hs hl (by simp [ho,Op.operands]) hy:VRep c σ.mem Γ w _ (a.eval y)).1
  exact ⟨_,key t _ _ z a w ht e1 e2 h0 hz,b,oo,cs,fp,by rw [Nat.add_assoc],hr,hrest⟩
 ·exact h.elim
theorem aBuildArr_ok (hT:TabOK P T) {ty e:TypeId} {n:Nat} {parts:Array (Nat × Operand)} (hu:P.underlying ty=some (.array n e)) (hes:(T e).isSome=true) (ho:o.op=.build ty parts) (h:aBuildArr T K ty parts):∃ e,K e/\SOK P c lt lm nx o e:=by
 unfold aBuildArr at h
 split at h
 ·rename_i t ht
  obtain ⟨hp,hag,hK⟩:=h
  refine ⟨_,hK,SOK.pure fun σ Γ a w hs hl _=>?_⟩
  obtain ⟨i,dd,hi1,hi2,hi3,_,_⟩:=hT _ _ ht
  obtain ⟨te,hte⟩:=Option.isSome_iff_exists.1 hes
  have hse:=(hT _ _ hte).sizeOf w
  have hpe:parts=#[]:=Array.toList_inj.1 hp
  have hz:(zeroValue ty).run P w=.ok t.zv w:=by
   simp [zeroValue,typeInfo,hi1,hi3]
  refine ⟨.agg t.zc.toArray,?_,_,rfl,zcl_rep t⟩
  simp [execOp,ho,hpe,Instr.build,hz,run_underlying hu,hse,Instr.fill,zv_cells]
 ·exact h.elim
theorem aMakeMap_ok {t:TypeId} {r:Option Operand} (ho:o.op=.makeMap t r) (h:aMakeMap K r):∃ e,K e/\SOK P c lt lm nx o e:=by
 obtain ⟨rfl,hK⟩:=h
 refine ⟨_,hK,(fun p hp=>by cases hp),fun σ Γ a w hs hl hm _ hd K Q hK=>?_⟩
 have hrun:(execOp a.eval o).run P w=.ok (.value (.map (some w.heap.size))) (w.alloc (.map #[] 0)):=by
  simp [execOp,ho,Instr.makeMap]
 refine wp_value hrun (hK Γ _ _ ?_)
 have hs':=hs.frame (below_alloc w (.map #[] 0))
 have hv:VRep c σ.mem Γ (w.alloc (.map #[] 0)) (.ex .opq .int (some (0:Int))) (.map (some w.heap.size)):=⟨[],⟨_,rfl,rfl,rfl⟩,fun b hb=>by cases hb⟩
 have:=hs'.put (d:=o.dst) hv (fun x hx=>hd x hx)
 unfold St.app
 cases hdst:o.dst<;>simp only [hdst,St.put] at this ⊢<;>exact this
theorem cap_dat {w:World}:∀ {A:Ty} {x:A.den} {cs:List Value} {fp:List Nat},A.rp.rep w cs x fp->All2 (fun v d=>∃ fp,DRep w v d fp/\∀ b ∈ fp,(fun _=>True) b) cs (capD A x):=by
 intro A
 induction A with
 | prod A B ihA ihB =>
  intro x cs fp h
  obtain ⟨c1,c2,f1,f2,rfl,rfl,h1,h2⟩:=h
  exact (ihA h1).app (ihB h2)
 | _ =>
  intro x cs fp h
  have hl:=(Ty.rp _).len h
  rw [Ty.rp_size] at hl
  match cs,hl with
  | [v],_=>exact ⟨⟨fp,⟨[v],.inr ⟨rfl,rfl⟩,h⟩,fun _ _=>trivial⟩,trivial⟩
theorem cap_rep {σ:St} {Γ:Asg} {a:Act} {w:World} (hs:Sim c σ Γ a w):∀ {A:Ty} {x:A.den} {ks:List Nat} {us:List Value},All2 (PtrK σ.mem Γ) ks us->CapOK (look σ.mem) A x ks->∃ fp,A.rp.rep w us x fp:=by
 intro A
 induction A with
 | prod A B ihA ihB =>
  intro x ks us hp h
  obtain ⟨f1,h1⟩:=ihA (hp.take _) h.1
  obtain ⟨f2,h2⟩:=ihB (hp.drop _) h.2
  exact ⟨f1++f2,_,_,f1,f2,by rw [List.take_append_drop],rfl,h1,h2⟩
 | ext e t _ =>
  intro x ks us hp h
  cases e with
  | ref =>
   cases x with
   | none=>exact h.elim
   | some y =>
    match ks,us,hp,h with
    | [k],[u],hp,h =>
     have h:(match look σ.mem k with
      | some (.bx _ cs)=>Is (look σ.mem) t y cs
      | _=>False):=h
     split at h
     ·rename_i xo cs hk
      obtain ⟨⟨xo',cs',hq,rfl⟩,_⟩:=hp
      rw [hk] at hq; cases hq
      obtain ⟨us,e,hg,hc⟩:=box_cell hs hk
      obtain ⟨fp,hr,_⟩:=hs.isRep hc h
      refine ⟨Γ.loc k xo :: fp,Γ.loc k xo,0,us.toList,fp,rfl,rfl,hr,fun j v hv=>?_⟩
      rw [Nat.zero_add,cell_of_row w _ _ us e (0,0) hg,<-Array.getElem?_toList]; exact hv
     ·exact h.elim
    | [_],[],hp,_=>exact hp.elim
    | [_],_ :: _ :: _,hp,_=>exact hp.2.elim
    | [],_,_,h=>exact h.elim
    | _ :: _ :: _,_,_,h=>exact h.elim
  | _=>exact h.elim
 | _=>intro x ks us _ h; exact h.elim
theorem CapOK_congr {lm lm':Nat->Option Blk}:∀ {A:Ty} {x:A.den} {ks:List Nat},(∀ k ∈ ks.flatMap (boxRows lm),lm' k=lm k)->CapOK lm A x ks->CapOK lm' A x ks:=by
 intro A
 induction A with
 | prod A B ihA ihB =>
  intro x ks hc h
  exact ⟨ihA (fun k hk=>hc k (by obtain ⟨j,hj,hk⟩:=List.mem_flatMap.1 hk; exact List.mem_flatMap.2 ⟨j,List.mem_of_mem_take hj,hk⟩)) h.1,
   ihB (fun k hk=>hc k (by obtain ⟨j,hj,hk⟩:=List.mem_flatMap.1 hk; exact List.mem_flatMap.2 ⟨j,List.mem_of_mem_drop hj,hk⟩)) h.2⟩
 | ext e t _ =>
  intro x ks hc h
  cases e with
  | ref =>
   cases x with
   | none=>exact h.elim
   | some y =>
    match ks,hc,h with
    | [k],hc,h =>
     have h:(match lm k with
      | some (.bx _ cs)=>Is lm t y cs
      | _=>False):=h
     show (match lm' k with
      | some (.bx _ cs)=>Is lm' t y cs
      | _=>False)
     split at h
     ·rename_i xo cs hk
      have h1:lm' k=lm k:=hc k (by simp [boxRows,hk])
      rw [h1,hk]
      exact Is_congr (fun j hj=>hc j (by simp [boxRows,hk,hj])) h
     ·exact h.elim
    | [],_,h=>exact h.elim
    | _ :: _ :: _,_,h=>exact h.elim
  | _=>exact h.elim
 | _=>intro x ks _ h; exact h.elim
theorem all2_datC {w:World} {a:Act} {M:Mm} {Γ:Asg} {lm':Nat->Option Blk}:∀ {vs:List AV} {xs:List Operand} {args:List Dat},All2 (fun v x=>ARep c M Γ w v (a.eval x)) vs xs->All2 (fun v d=>IsC lm' d v) vs args →
  (∀ v d u,v ∈ vs->ARep c M Γ w v u->IsC lm' d v->∃ fp,DRep w u d fp/\∀ b ∈ fp,(fun _=>True) b)->All2 (fun v d=>∃ fp,DRep w v d fp/\∀ b ∈ fp,(fun _=>True) b) (xs.map a.eval) args
 | [],[],[],_,_,_=>trivial
 | v :: vs,x :: xs,d :: args,⟨h1,h2⟩,⟨h3,h4⟩,hf=>⟨hf v d _ List.mem_cons_self h1 h3,all2_datC h2 h4 fun v d u hv=>hf v d u (List.mem_cons_of_mem _ hv)⟩
 | [],_ :: _,_,h,_,_=>h.elim
 | [],[],_ :: _,_,h,_=>h.elim
 | _ :: _,[],_,h,_,_=>h.elim
 | _ :: _,_ :: _,[],_,h,_=>h.elim
theorem flat_end {σ:St} {Γ:Asg} {a:Act} {w w':World} {d:Dat} {u:Value} {fp:List Nat} {rows:List Nat} {Kc:Act->World->Prop} (hs:Sim c σ Γ a w) (hb:Below w.heap.size w w') (hfl:d.1.flat=true) (hdr:DRep w' u d fp) (hd:∀ x,o.dst=some x->x < c.n)
  (hK:∀ Γ' a' w',Sim c (σ.app o.dst ⟨av d.1 d.2,[],rows⟩) Γ' a' w'->Kc a' w'):Kc (a.put o.dst u) w':=by
 have hs':=hs.frame hb
 obtain ⟨cs,hpk,hrp⟩:=hdr
 have hf0:=flat_rep hfl hrp
 subst hf0
 have hv:VRep c σ.mem Γ w' (av d.1 d.2) u:=arep_vrep (av_rep ⟨cs,hpk,hrp⟩ fun b hbb=>by cases hbb)
 refine hK Γ _ _ ?_
 have:=hs'.put (d:=o.dst) hv (fun x hx=>hd x hx)
 unfold St.app
 cases hdst:o.dst<;>simp only [hdst,St.put] at this ⊢<;>exact this
theorem aCallK_ok {fop:Operand} {xs:Array Operand} {tys:Array TypeId} (ho:o.op=.call { callee:=.value fop,args:=xs,argTypes:=tys }) {f:FuncId} {vs:List AV} (hf:ev lt fop=some (.sc (.func (.func f) #[] #[]))) (hvs:evs lt xs.toList=some vs) (hok:vs.all AV.ok=true) (h:CallK P lm K f vs):∃ e,K e/\SOK P c lt lm nx o e:=by
 obtain ⟨args,d,hfn,hfl,hargs,hK⟩:=h
 refine ⟨_,hK,(fun p hp=>by cases hp),fun σ Γ a w hs hl hm hn hd K Q hK=>?_⟩
 obtain ⟨hr,hv⟩:=call_run ho hf hvs hok hfn.1 σ Γ a w hs hl
 unfold Oper.wp
 rw [hr,Oper.upon_enter]
 have hma:xs.map a.eval=(xs.toList.map a.eval).toArray:=Array.toList_inj.1 (by rw [Array.toList_map])
 rw [hma]
 have hrd:∀ v ∈ vs,∀ k ∈ rdK lm v,look σ.mem k=lm k:=fun v hv k hk=>hm k (List.mem_flatMap.2 ⟨v,hv,hk⟩)
 have hda:=all2_datC hv hargs (fun v d u hvm hvr hi=>by
  have hrv:=hrd v hvm
  cases v with
  | clb g ks =>
   obtain ⟨A,x,rfl,hc⟩:=isClo_ex hi
   obtain ⟨us,rfl,hpk⟩:=hvr
   obtain ⟨fp,hrp⟩:=cap_rep hs hpk (CapOK_congr (lm':=look σ.mem) hrv hc)
   exact ⟨fp,⟨_,.inr ⟨rfl,rfl⟩,_,rfl,hrp⟩,fun _ _=>trivial⟩
  | _ =>
   obtain ⟨fp,h1,_⟩:=hs.isVRep hvr (IsV_congr (d:=d) hrv hi)
   exact ⟨fp,h1,fun _ _=>trivial⟩)
 refine (hfn.2 w _ _ hda).mono ?_
 rintro e w' ⟨hb,u,rfl,fp,hdr,_,_⟩
 exact flat_end hs hb hfl hdr hd hK
theorem aCallD_ok {fop:Operand} {xs:Array Operand} {tys:Array TypeId} (ho:o.op=.call { callee:=.value fop,args:=xs,argTypes:=tys }) {f:FuncId} {A:Ty} {x:A.den} {vs:List AV} (hf:ev lt fop=some (.ex (.clo f) A (some x))) (hvs:evs lt xs.toList=some vs) (hok:vs.all AV.ok=true) (h:CallD P lm K f A x vs):∃ e,K e/\SOK P c lt lm nx o e:=by
 obtain ⟨args,d,hfn,hfl,hargs,hK⟩:=h
 refine ⟨_,hK,(fun p hp=>by cases hp),fun σ Γ a w hs hl hm hn hd K Q hK=>?_⟩
 have hl':∀ x ∈ o.op.operands.toList,∀ t,x=.tmp t->look σ.tmps t=lt t:=fun x hx t e=>hl t (mem_opnds hx e)
 obtain ⟨fpc,hrc,_⟩:=(ev_rep hs (hl' fop (by simp [ho,Op.operands,Call.operands])) hf:VRep c σ.mem Γ w _ (a.eval fop))
 obtain ⟨cs',e1,hrc⟩:=hrc
 injection e1 with e1
 have hv:=evs_rep hs (fun x hx=>hl' x (by simp only [ho,Op.operands,Call.operands]; simp; exact .inr (by simpa using hx))) hvs hok
 have hma:xs.map a.eval=(xs.toList.map a.eval).toArray:=Array.toList_inj.1 (by rw [Array.toList_map])
 have hr:(execOp a.eval o).run P w=.ok (.enter f (xs.toList.map a.eval++cs').toArray) w:=by
  have h0:=hfn.1 (xs.map a.eval++cs'.toArray) w
  rw [hma] at h0
  simp [execOp,ho,resolve,e1,Deferred.ofValue,invoke]
  rw [hma]
  simpa using h0
 unfold Oper.wp
 rw [hr,Oper.upon_enter]
 have hrows:∀ v ∈ vs,∀ k ∈ v.rows,look σ.mem k=lm k:=fun v hv k hk=>hm k (List.mem_flatMap.2 ⟨v,hv,hk⟩)
 have hda:=(all2_dat (S:=fun _=>True) hv hargs (fun v d u hvm hvr hi=>by
  obtain ⟨fp,h1,_⟩:=hs.isVRep hvr (IsV_congr (hrows v hvm) hi)
  exact ⟨fp,h1,fun _ _=>trivial⟩)).app (cap_dat hrc)
 refine (hfn.2 w _ _ hda).mono ?_
 rintro e w' ⟨hb,u,rfl,fp,hdr,_,_⟩
 exact flat_end hs hb hfl hdr hd hK
theorem aCall2_ok (hnx:∀ k,nx<=k->lm k=none) {fop:Operand} {xs:Array Operand} {tys:Array TypeId} (ho:o.op=.call { callee:=.value fop,args:=xs,argTypes:=tys }) (h:aCall2 P lt lm nx K fop xs):∃ e,K e/\SOK P c lt lm nx o e:=by
 unfold aCall2 at h
 split at h
 ·rename_i f A x vs hf hvs
  exact aCallD_ok ho hf hvs h.1 h.2
 ·rename_i f fi ca vs hf hvs
  split at h
  ·obtain ⟨rfl,rfl,hok,h⟩:=h
   exact aCallK_ok ho hf hvs hok h
  ·exact aCall_ok hnx ho h
 ·exact h.elim
end
end Go.Proofs.YtaflkgjckmfkoaaGreat.DW

namespace Go.Proofs.YtaflkgjckmfkoaaGreat.DW
open Go.RowKit
section
variable (P:Program) (T:TypeId->Option Ty) (lt:Nat->Option AV) (lm:Nat->Option Blk) (nx:Nat) (K:Eff->Prop)
def aStep (o:Oper):Prop :=
 match o.op with
 | .move x=>aMove lt K x
 | .assign x=>aMove lt K x
 | .pick x y z=>aPick lt K x y z
 | .box _ x=>aBox lt nx K x
 | .alloc t=>aAlloc T nx K t
 | .load t x=>aLoad T lt lm K t x
 | .store t x y =>
  match ev lt x with
  | some (.elm ..)=>aStoreRow T lt lm K t x y
  | some (.mel ..)=>aStoreMine T lt lm K t x y
  | _=>aStoreBox T lt lm K t x y
 | .fieldAddr s x f=>aFieldAddr P T lt lm K s x f
 | .field s x f=>aField P T lt K s x f
 | .indexAddr t x y =>
  match P.underlying t with
  | some (.array n e)=>aIndexArr T lt K n e x y
  | _=>aIndexAddr P T lt lm K t x y
 | .nilCheck x=>aNilChk lt K x
 | .makeMap _ r=>aMakeMap K r
 | .binOp op t x y _ =>
  match y with
  | .const (.slice none 0 0)=>aNil P lt lm K op t x
  | _=>aBin P T lt K op t x y
 | .unOp op _ x=>aUn lt K op x
 | .convert s d x=>aConv P lt K s d x
 | .extract x i=>aExtract lt K x i
 | .build t ps =>
  match P.underlying t with
  | some (.array _ e)=>(T e).isSome=true/\aBuildArr T K t ps
  | _=>aBuild P T lt K t ps
 | .buildSlice t n ps=>aBuildSlice P T lt lm nx K t n ps
 | .makeSlice t x y=>aMakeSlice P T lt nx K t x y
 | .slice t x lo hi mx=>aSlice P T lt lm K t x lo hi mx
 | .makeFunc fn f c =>
  match c.toList with
  | []=>f=#[]/\K (.val (.sc (.func fn #[] #[])))
  | _=>f=#[]/\aMakeClo lt K fn c.toList
 | .call { callee,args,argTypes } =>
  match callee with
  | .value f=>aCall2 P lt lm nx K f args
  | .builtin b =>
   match b,args.toList,argTypes.toList with
   | .len,[x],[t]=>aLen P lt lm K t x
   | .append,[x,y],[t,u]=>t=u/\aAppend P T lt lm nx K t x y
   | .min,_,_=>aMin lt K args
   | .max,_,_=>aMax lt K args
   | _,_,_=>False
  | _=>False
 | _=>False
end
theorem toList1 {α:Type} {a:Array α} {l:List α} (h:a.toList=l):a=l.toArray:=Array.toList_inj.1 (by rw [h])
theorem aStep_ok {P:Program} {T:TypeId->Option Ty} {c:Cx} {lt:Nat->Option AV} {lm:Nat->Option Blk} {nx:Nat} {K:Eff->Prop} {o:Oper} (hT:TabOK P T) (hnx:∀ k,nx<=k->lm k=none) (h:aStep P T lt lm nx K o):∃ e,K e/\SOK P c lt lm nx o e:=by
 unfold aStep at h
 split at h
 ·rename_i x ho; exact aMove_ok (.inl ho) h
 ·rename_i x ho; exact aMove_ok (.inr ho) h
 ·rename_i x y z ho; exact aPick_ok ho h
 ·rename_i t x ho; exact aBox_ok ho h
 ·rename_i t ho; exact aAlloc_ok hT ho h
 ·rename_i t x ho; exact aLoad_ok hT ho h
 ·rename_i t x y ho
  split at h
  ·exact aStoreRow_ok hT ho h
  ·exact aStoreMine_ok hT ho h
  ·exact aStoreBox_ok hT ho h
 ·rename_i s x f ho; exact aFieldAddr_ok hT ho h
 ·rename_i s x f ho; exact aField_ok hT ho h
 ·rename_i t x y ho
  split at h
  ·rename_i n e hu; exact aIndexArr_ok hT hu ho h
  ·exact aIndexAddr_ok hT ho h
 ·rename_i x ho; exact aNilChk_ok ho h
 ·rename_i t r ho; exact aMakeMap_ok ho h
 ·rename_i op t x y u ho
  split at h
  ·exact aNil_ok ho h
  ·exact aBin_ok ho h
 ·rename_i op u x ho; exact aUn_ok ho h
 ·rename_i s d x ho; exact aConv_ok ho h
 ·rename_i x i ho; exact aExtract_ok ho h
 ·rename_i t ps ho
  split at h
  ·rename_i n e hu; exact aBuildArr_ok hT hu h.1 ho h.2
  ·exact aBuild_ok hT ho h
 ·rename_i t n ps ho; exact aBuildSlice_ok hT hnx ho h
 ·rename_i t x y ho; exact aMakeSlice_ok hT ho h
 ·rename_i t x lo hi mx ho; exact aSlice_ok hT ho h
 ·rename_i fn f cc ho
  split at h
  ·rename_i hc
   obtain ⟨rfl,hK⟩:=h
   obtain rfl:cc=#[]:=Array.toList_inj.1 hc
   refine ⟨_,hK,SOK.pure fun σ Γ a w hs hl _=>⟨.func fn #[] #[],?_,rfl,rfl,trivial⟩⟩
   simp [execOp,ho,Instr.makeFunc]
  ·exact aMakeClo_ok ho h.1 h.2
 ·rename_i callee args argTypes ho
  split at h
  ·exact aCall2_ok hnx ho h
  ·split at h
   ·rename_i x t h1 h2
    rw [toList1 h1,toList1 h2] at ho
    exact aLen_ok ho h
   ·rename_i x y t u h1 h2
    obtain ⟨rfl,h⟩:=h
    rw [toList1 h1,toList1 h2] at ho
    exact aAppend_ok hT hnx ho h
   ·exact aMin_ok ho h
   ·exact aMax_ok ho h
   ·exact h.elim
  ·exact h.elim
 ·exact h.elim
def fresh (M:Mm):Nat:=M.foldr (fun p n=>max (p.1+1) n) 0
theorem look_fresh {M:Mm}:∀ {k:Nat},fresh M<=k->look M k=none:=by
 induction M with
 | nil=>intros; rfl
 | cons p M ih =>
  obtain ⟨j,B⟩:=p
  intro k h
  simp only [fresh,List.foldr_cons] at h
  have hm:fresh M<=k:=by simp only [fresh]; omega
  rw [look_ne _ _ (by omega),ih hm]
def gslot (ops:List Oper) (j:Nat):Option Nat:=(ops[j]?).bind (·.dst)
abbrev Tr:=List (List Nat × List Nat)
def Eff.te (e:Eff):List Nat × List Nat:=(e.mems.map (·.1),e.mems.map (·.1)++e.rd)
def Eff.skip:Eff:=⟨.tup [],[],[]⟩
def dstOK (n:Nat) (o:Oper):Prop:=match o.dst with|some d=>d < n|none=>True
section
variable (P:Program) (T:TypeId->Option Ty) (n:Nat) (ops:List Oper)
def AO:List Oper->St->Tr->(St->Tr->Prop)->Prop
 | [],σ,tr,Q=>Q σ tr
 | o :: os,σ,tr,Q =>
  dstOK n o ∧
  match o.guard with
  | none=>aStep P T (look σ.tmps) (look σ.mem) (fresh σ.mem) (fun e=>AO os (σ.app o.dst e) (tr++[e.te]) Q) o
  | some (j,want) =>
   match gslot ops j with
   | some g =>
    match look σ.tmps g with
    | some (.sc (.bool b)) =>
     (b=want->aStep P T (look ((g,.sc (.bool want)) :: σ.tmps)) (look σ.mem) (fresh σ.mem) (fun e=>AO os (St.app ⟨(g,.sc (.bool want)) :: σ.tmps,σ.mem⟩ o.dst e) (tr++[e.te]) Q) o) ∧
     (b=!want->AO os (St.app ⟨(g,.sc (.bool (!want))) :: σ.tmps,σ.mem⟩ o.dst .skip) (tr++[Eff.te .skip]) Q)
    | some (.tup _)=>AO os (σ.app o.dst .skip) (tr++[Eff.te .skip]) Q
    | _=>False
   | none=>False
end
def Same (σ σ':St):Prop:=(∀ d,look σ'.tmps d=look σ.tmps d)/\∀ k,look σ'.mem k=look σ.mem k
theorem Mut_same {M M':Mm} {Γ:Asg} (h:∀ k,look M' k=look M k) {b:Nat}:Mut M' Γ b ↔ Mut M Γ b:=by
 unfold Mut
 constructor<;>rintro ⟨k,B,hk,hm⟩
 ·exact ⟨k,B,by rw [<-h]; exact hk,hm⟩
 ·exact ⟨k,B,by rw [h]; exact hk,hm⟩
theorem Gd_same {c:Cx} {M M':Mm} {Γ:Asg} (h:∀ k,look M' k=look M k) {b:Nat} (hg:Gd c M Γ b):Gd c M' Γ b:=⟨hg.1,fun hm=>hg.2 ((Mut_same h).1 hm)⟩
theorem crep_same {c:Cx} {M M':Mm} {Γ:Asg} {w:World} (h:∀ k,look M' k=look M k) {v:AV} {u:Value} (hv:CRep c M Γ w v u):CRep c M' Γ w v u:=by
 cases v with
 | sl t l=>obtain ⟨fp,hr,hg⟩:=hv; exact ⟨fp,hr,fun b hb=>Gd_same h (hg b hb)⟩
 | fx v t l=>obtain ⟨e,fp,hr,hg⟩:=hv; exact ⟨e,fp,hr,fun b hb=>Gd_same h (hg b hb)⟩
 | ex e t x=>obtain ⟨fp,hr,hg⟩:=hv; exact ⟨fp,hr,fun b hb=>Gd_same h (hg b hb)⟩
 | clb f ks=>obtain ⟨us,rfl,hk⟩:=hv; exact ⟨us,rfl,hk.mono fun k u _ hj=>by obtain ⟨xo,cs,hc,rfl⟩:=hj; exact ⟨xo,cs,by rw [h]; exact hc,rfl⟩⟩
 | row k ver =>
  obtain ⟨h1,B,hB,hh⟩:=hv
  refine ⟨h1,B,by rw [h]; exact hB,?_⟩
  cases B with
  | froz t v l=>intro e; obtain ⟨fp,hr,hg⟩:=hh e; exact ⟨fp,hr,fun b hb=>Gd_same h (hg b hb)⟩
  | _=>exact hh
 | ptr k off=>obtain ⟨xo,cs,hc,rfl⟩:=hv; exact ⟨xo,cs,by rw [h]; exact hc,rfl⟩
 | elm k ver i off=>obtain ⟨h1,B,hB,hh⟩:=hv; exact ⟨h1,B,by rw [h]; exact hB,hh⟩
 | mel k i s off=>obtain ⟨h1,B,hB,hh⟩:=hv; exact ⟨h1,B,by rw [h]; exact hB,hh⟩
 | ref t x off=>obtain ⟨b,o,cs,fp,rfl,hr,hc,hgb,hg,hl⟩:=hv; exact ⟨b,o,cs,fp,rfl,hr,hc,Gd_same h hgb,fun b' hb'=>Gd_same h (hg b' hb'),hl⟩
 | _=>exact hv
theorem Sim.same {c:Cx} {σ σ':St} {Γ:Asg} {a:Act} {w:World} (h:Sim c σ Γ a w) (hs:Same σ σ'):Sim c σ' Γ a w:=by
 obtain ⟨h1,h2⟩:=hs
 have hcr:∀ v u,CRep c σ.mem Γ w v u->CRep c σ'.mem Γ w v u:=fun v u=>crep_same h2
 refine ⟨fun d v hd=>?_,fun k B hk=>?_,fun k k' B B' b hk hk'=>?_,fun k k' B B' b hk hk'=>?_,h.below,h.hb,h.defs,h.sz⟩
 ·obtain ⟨u,e1,e2⟩:=h.tm d v (by rw [<-h1]; exact hd); exact ⟨u,e1,vrep_mono hcr e2⟩
 ·have hold:=h.mm k B (by rw [<-h2]; exact hk)
  cases B with
  | bx x cs=>obtain ⟨e1,us,e,e2,e3⟩:=hold; exact ⟨e1,us,e,e2,e3.mono fun v u _=>hcr v u⟩
  | row e t v o l=>obtain ⟨fps,e1,e2,e3,e4⟩:=hold; exact ⟨fps,e1,e2,fun b hb=>Gd_same h2 (e3 b hb),e4⟩
  | odat t l=>exact ⟨hold.1,fun b hb=>Gd_same h2 (hold.2.1 b hb),hold.2.2⟩
  | mine t l=>exact hold
  | _=>trivial
 ·exact h.inj k k' B B' b (by rw [<-h2]; exact hk) (by rw [<-h2]; exact hk')
 ·exact h.disj k k' B B' b (by rw [<-h2]; exact hk) (by rw [<-h2]; exact hk')
theorem same_ref {σ:St} {g:Nat} {v:AV} (h:look σ.tmps g=some v):Same σ ⟨(g,v) :: σ.tmps,σ.mem⟩:=by
 refine ⟨fun d=>?_,fun k=>rfl⟩
 by_cases hd:d=g
 ·subst hd; rw [look_self,h]
 ·rw [look_ne _ _ hd]
def Went (P:Program) (c:Cx) (ops:List Oper) (σ:St) (o:Oper) (e:Eff):Prop :=
 (∀ d,o.dst=some d->d < c.n) ∧
 match o.guard with
 | none=>∃ nx,(∀ k,nx<=k->look σ.mem k=none)/\SOK P c (look σ.tmps) (look σ.mem) nx o e
 | some (j,want)=>∃ g,gslot ops j=some g/\((∃ b,look σ.tmps g=some (.sc (.bool b)) ∧
   (b=want/\(∃ nx,(∀ k,nx<=k->look σ.mem k=none)/\SOK P c (look σ.tmps) (look σ.mem) nx o e)\/b=(!want)/\e=.skip))\/(∃ vs,look σ.tmps g=some (.tup vs))/\e=.skip)
def runEs (σ:St):List (Oper × Eff)->St
 | []=>σ
 | (o,e) :: l=>runEs (σ.app o.dst e) l
inductive Went' (P:Program) (c:Cx) (ops:List Oper):St->List Oper->List Eff->Prop
 | nil (σ):Went' P c ops σ [] []
 | cons {σ o os e es}:Went P c ops σ o e->Went' P c ops (σ.app o.dst e) os es->Went' P c ops σ (o :: os) (e :: es)
theorem SOK.same {P:Program} {c:Cx} {lt lt':Nat->Option AV} {lm lm':Nat->Option Blk} {nx:Nat} {o:Oper} {e:Eff} (h1:∀ d,lt' d=lt d) (h2:∀ k,lm' k=lm k) (h:SOK P c lt lm nx o e):SOK P c lt' lm' nx o e:=by
 have:lt'=lt:=funext h1
 have:lm'=lm:=funext h2
 subst lt' lm'
 exact h
theorem app_same {σ σ':St} (h:Same σ σ') (d:Option Nat) (e:Eff):Same (σ.app d e) (σ'.app d e):=by
 obtain ⟨h1,h2⟩:=h
 cases d with
 | none=>exact ⟨h1,fun k=>by simp only [St.app,look_app,h2]⟩
 | some d=>exact ⟨fun x=>by simp only [St.app,look_cons,h1],fun k=>by simp only [St.app,look_app,h2]⟩
theorem AO_went {P:Program} {T:TypeId->Option Ty} {c:Cx} (hT:TabOK P T) {ops:List Oper}:∀ {os:List Oper} {σ σ0:St} {tr:Tr} {Q:St->Tr->Prop},AO P T c.n ops os σ tr Q->Same σ0 σ →
  ∃ es σ',Went' P c ops σ0 os es/\Q σ' (tr++es.map Eff.te)/\Same (runEs σ0 (os.zip es)) σ'
 | [],σ,σ0,tr,Q,h,hs=>⟨[],σ,.nil _,by simpa using (show Q σ tr from h),hs⟩
 | o :: os,σ,σ0,tr,Q,h,hs=>by
  obtain ⟨hd,h⟩:=h
  have hd':∀ d,o.dst=some d->d < c.n:=fun d e=>by rw [dstOK,e] at hd; exact hd
  split at h
  ·rename_i hg
   obtain ⟨e,hK,hsok⟩:=aStep_ok (c:=c) hT (fun k hk=>look_fresh hk) h
   obtain ⟨es,σ',h1,h2,h3⟩:=AO_went hT hK (app_same hs o.dst e)
   refine ⟨e :: es,σ',.cons ⟨hd',?_⟩ h1,by simpa using h2,h3⟩
   rw [hg]
   exact ⟨fresh σ.mem,fun k hk=>by rw [<-hs.2]; exact look_fresh hk,hsok.same (fun d=>(hs.1 d).symm) (fun k=>(hs.2 k).symm)⟩
  ·rename_i j want hg
   split at h
   ·rename_i g hgs
    split at h
    ·rename_i b hb
     have hb0:look σ0.tmps g=some (.sc (.bool b)):=by rw [<-hs.1]; exact hb
     by_cases hbw:b=want
     ·have hs':Same σ0 ⟨(g,.sc (.bool want)) :: σ.tmps,σ.mem⟩:=⟨fun d=>((same_ref (v:=.sc (.bool want)) (hbw ▸ hb)).1 d).trans (hs.1 d),hs.2⟩
      obtain ⟨e,hK,hsok⟩:=aStep_ok (c:=c) hT (fun k hk=>look_fresh hk) (h.1 hbw)
      obtain ⟨es,σ',h1,h2,h3⟩:=AO_went hT hK (app_same hs' o.dst e)
      refine ⟨e :: es,σ',.cons ⟨hd',?_⟩ h1,by simpa using h2,h3⟩
      rw [hg]
      exact ⟨g,hgs,.inl ⟨b,hb0,.inl ⟨hbw,fresh σ.mem,fun k hk=>by rw [<-hs.2]; exact look_fresh hk,hsok.same (fun d=>(hs'.1 d).symm) (fun k=>(hs'.2 k).symm)⟩⟩⟩
     ·have hbw':b=!want:=by cases b<;>cases want<;>simp_all
      have hs':Same σ0 ⟨(g,.sc (.bool (!want))) :: σ.tmps,σ.mem⟩:=⟨fun d=>((same_ref (v:=.sc (.bool (!want))) (hbw' ▸ hb)).1 d).trans (hs.1 d),hs.2⟩
      obtain ⟨es,σ',h1,h2,h3⟩:=AO_went hT (h.2 hbw') (app_same hs' o.dst .skip)
      refine ⟨.skip :: es,σ',.cons ⟨hd',?_⟩ h1,by simpa using h2,h3⟩
      rw [hg]
      exact ⟨g,hgs,.inl ⟨b,hb0,.inr ⟨hbw',rfl⟩⟩⟩
    ·rename_i vs hb
     obtain ⟨es,σ',h1,h2,h3⟩:=AO_went hT h (app_same hs o.dst .skip)
     refine ⟨.skip :: es,σ',.cons ⟨hd',?_⟩ h1,by simpa using h2,h3⟩
     rw [hg]
     exact ⟨g,hgs,.inr ⟨⟨vs,by rw [<-hs.1]; exact hb⟩,rfl⟩⟩
    ·exact h.elim
   ·exact h.elim
end Go.Proofs.YtaflkgjckmfkoaaGreat.DW

namespace Go.Proofs.YtaflkgjckmfkoaaGreat.DW
open Go.RowKit
section
variable {P:Program} {c:Cx} {ops:List Oper}
theorem yield_sim {σ:St} {Γ:Asg} {a:Act} {w:World} (hs:Sim c σ Γ a w) {j g:Nat} {b:Bool} (hg:gslot ops j=some g) (hb:look σ.tmps g=some (.sc (.bool b))):yielded ops.toArray a.tmps j=some b:=by
 obtain ⟨u,h1,h2⟩:=hs.tm g _ hb
 have h2':u=.bool b:=h2.1
 subst h2'
 unfold gslot at hg
 simp only [yielded,List.getElem?_toArray,hg,Option.bind_some,h1]
theorem Went.step {σ0 σ:St} {o:Oper} {e:Eff} (h:Went P c ops σ0 o e) {Γ:Asg} {a:Act} {w:World} (hs:Sim c σ Γ a w) (ht:∀ t ∈ opnds o,look σ.tmps t=look σ0.tmps t)
  (hg:∀ j want g,o.guard=some (j,want)->gslot ops j=some g->look σ.tmps g=look σ0.tmps g) (hm:∀ k,k ∈ e.mems.map (·.1)++e.rd->look σ.mem k=look σ0.mem k)
  {K:Act->World->Prop} {Q:Exit->Act->World->Prop} (hK:∀ Γ' a' w',Sim c (σ.app o.dst e) Γ' a' w'->K a' w') :
  if Region.wanted o (yielded ops.toArray a.tmps) then o.wp P a w K Q else K (a.put o.dst undef) w:=by
 obtain ⟨hd,h⟩:=h
 have hsok:∀ nx,(∀ k,nx<=k->look σ0.mem k=none)->SOK P c (look σ0.tmps) (look σ0.mem) nx o e->o.wp P a w K Q:=by
  intro nx hnx ⟨h1,h2⟩
  refine h2 σ Γ a w hs ht (fun k hk=>hm k (List.mem_append.2 (.inr hk))) (fun p hp hn=>?_) hd K Q hK
  rw [hm p.1 (List.mem_append.2 (.inl (List.mem_map.2 ⟨p,hp,rfl⟩)))]
  exact hnx _ ((h1 p hp).resolve_right hn)
 split at h
 ·rename_i hgd
  obtain ⟨nx,hnx,hsk⟩:=h
  rw [if_pos (by simp [Region.wanted,hgd])]
  exact hsok nx hnx hsk
 ·rename_i j want hgd
  have hskip:e=.skip->Region.wanted o (yielded ops.toArray a.tmps)=false->(if Region.wanted o (yielded ops.toArray a.tmps) then o.wp P a w K Q else K (a.put o.dst undef) w):=by
   rintro rfl hw
   rw [hw,if_neg (by simp)]
   refine hK Γ _ _ ?_
   have:=hs.put (d:=o.dst) (v:=.tup []) (u:=undef) ⟨[],rfl,trivial⟩ (fun x hx=>hd x hx)
   unfold St.app
   cases hdst:o.dst<;>simp only [hdst,St.put,Eff.skip,List.nil_append] at this ⊢<;>exact this
  obtain ⟨g,h1,⟨b,h2,h3⟩|⟨⟨vs,h2⟩,rfl⟩⟩:=h
  rotate_left
  ·refine hskip rfl ?_
   have hnone:yielded ops.toArray a.tmps j=none:=by
    obtain ⟨u,g1,us,rfl,_⟩:=hs.tm g _ ((hg j want g hgd h1).trans h2)
    unfold gslot at h1
    simp only [yielded,List.getElem?_toArray,h1,Option.bind_some,g1]
   simp [Region.wanted,hgd,hnone]
  have hy:=yield_sim hs h1 ((hg j want g hgd h1).trans h2)
  rcases h3 with ⟨rfl,nx,hnx,hsk⟩|⟨rfl,rfl⟩
  ·rw [if_pos (by simp [Region.wanted,hgd,hy])]
   exact hsok nx hnx hsk
  ·exact hskip rfl (by simp [Region.wanted,hgd,hy])
theorem went_list {Q:Exit->Act->World->Prop}:∀ {os:List Oper} {es:List Eff} {σ:St} {Γ:Asg} {a:Act} {w:World},Went' P c ops σ os es->Sim c σ Γ a w->(∀ Γ' a' w',Sim c (runEs σ (os.zip es)) Γ' a' w'->Q .normal a' w')->wpList P ops.toArray Q os a w
 | [],_,σ,Γ,a,w,.nil _,hs,hQ=>hQ Γ a w hs
 | o :: os,e :: es,σ,Γ,a,w,.cons h1 h2,hs,hQ=>by
  refine wpList_step fun K hK=>?_
  exact h1.step hs (fun _ _=>rfl) (fun _ _ _ _ _=>rfl) (fun _ _=>rfl) fun Γ' a' w' hs'=>hK _ _ (went_list h2 hs' hQ)
def runF (f:Nat->Bool):Nat->St->List (Oper × Eff)->St
 | _,σ,[]=>σ
 | i,σ,(o,e) :: l=>runF f (i+1) (cond (f i) (σ.app o.dst e) σ) l
theorem app_tm {σ:St} {d:Option Nat} {e:Eff} {x:Nat} (h:d ≠ some x):look (σ.app d e).tmps x=look σ.tmps x:=by
 cases d with
 | none=>rfl
 | some d=>exact look_ne _ _ (fun hx=>h (by rw [hx]))
theorem look_not {L:Mm} {k:Nat} (h:k ∉ L.map (·.1)):look L k=none:=by
 cases hl:look L k with
 | none=>rfl
 | some B=>obtain ⟨q,hq,e⟩:=look_mem hl; exact absurd (List.mem_map.2 ⟨q,hq,e⟩) h
theorem app_mm {σ:St} {d:Option Nat} {e:Eff} {k:Nat}:look (σ.app d e).mem k=(look e.mems k).or (look σ.mem k):=by
 cases d<;>simp only [St.app,look_app]
theorem runF_tm {f f':Nat->Bool} {d:Nat}:∀ {l:List (Oper × Eff)} {i0:Nat} {σ σ':St},(∀ i o e,l[i]? = some (o,e)->o.dst=some d->f (i0+i)=f' (i0+i))->look σ.tmps d=look σ'.tmps d->look (runF f i0 σ l).tmps d=look (runF f' i0 σ' l).tmps d
 | [],_,_,_,_,h=>h
 | (o,e) :: l,i0,σ,σ',hf,h=>by
  show look (runF f (i0+1) _ l).tmps d=look (runF f' (i0+1) _ l).tmps d
  refine runF_tm (fun i o' e' hi ho=>by have:=hf (i+1) o' e' (by simpa using hi) ho; rw [show i0+1+i=i0+(i+1) by omega]; exact this) ?_
  have h0:=hf 0 o e rfl
  by_cases hd:o.dst=some d
  ·have h00:=h0 hd
   simp only [Nat.add_zero] at h00
   rw [h00]
   cases f' i0 with
   | false=>exact h
   | true=>simp only [cond_true,St.app,hd,look_self]
  ·have e1:∀ (b:Bool) (τ:St),look (cond b (τ.app o.dst e) τ).tmps d=look τ.tmps d:=by
    intro b τ; cases b with
    | false=>rfl
    | true=>exact app_tm hd
   rw [e1,e1]; exact h
theorem runF_mm {f f':Nat->Bool} {k:Nat}:∀ {l:List (Oper × Eff)} {i0:Nat} {σ σ':St},(∀ i o e,l[i]? = some (o,e)->k ∈ e.mems.map (·.1)->f (i0+i)=f' (i0+i))->look σ.mem k=look σ'.mem k->look (runF f i0 σ l).mem k=look (runF f' i0 σ' l).mem k
 | [],_,_,_,_,h=>h
 | (o,e) :: l,i0,σ,σ',hf,h=>by
  show look (runF f (i0+1) _ l).mem k=look (runF f' (i0+1) _ l).mem k
  refine runF_mm (fun i o' e' hi ho=>by have:=hf (i+1) o' e' (by simpa using hi) ho; rw [show i0+1+i=i0+(i+1) by omega]; exact this) ?_
  have h0:=hf 0 o e rfl
  by_cases hd:k ∈ e.mems.map (·.1)
  ·have h00:=h0 hd
   simp only [Nat.add_zero] at h00
   rw [h00]
   cases f' i0 with
   | false=>exact h
   | true=>simp only [cond_true,app_mm,h]
  ·have e1:∀ (b:Bool) (τ:St),look (cond b (τ.app o.dst e) τ).mem k=look τ.mem k:=by
    intro b τ; cases b with
    | false=>rfl
    | true=>simp only [cond_true,app_mm,look_not hd,Option.none_or]
   rw [e1,e1]; exact h
def Apart (d d':Option Nat) (e e':Eff):Prop:=(∀ x,d=some x->d' ≠ some x)/\∀ k ∈ e.mems.map (·.1),k ∉ e'.mems.map (·.1)
theorem app_comm {σ:St} {d d':Option Nat} {e e':Eff} (h:Apart d d' e e'):Same ((σ.app d e).app d' e') ((σ.app d' e').app d e):=by
 refine ⟨fun x=>?_,fun k=>?_⟩
 ·by_cases h1:d=some x
  ·subst h1
   have h2:=h.1 x rfl
   rw [app_tm (σ:=σ.app (some x) e) h2]
   simp only [St.app,look_self]
  ·rw [app_tm h1]
   by_cases h2:d'=some x
   ·subst h2; simp only [St.app,look_self]
   ·rw [app_tm h2,app_tm h2,app_tm h1]
 ·simp only [app_mm]
  by_cases hk:k ∈ e.mems.map (·.1)
  ·rw [look_not (h.2 k hk)]; simp
  ·rw [look_not hk]; simp
theorem Same.trans' {a b d:St} (h:Same a b) (k:Same b d):Same a d:=⟨fun x=>(k.1 x).trans (h.1 x),fun x=>(k.2 x).trans (h.2 x)⟩
theorem Same.rfl' {a:St}:Same a a:=⟨fun _=>rfl,fun _=>rfl⟩
theorem runF_same {f:Nat->Bool}:∀ {l:List (Oper × Eff)} {i0:Nat} {σ σ':St},Same σ σ'->Same (runF f i0 σ l) (runF f i0 σ' l)
 | [],_,_,_,h=>h
 | (o,e) :: l,i0,σ,σ',h=>by
  refine runF_same (l:=l) ?_
  cases f i0 with
  | false=>exact h
  | true=>exact app_same h _ _
theorem runF_app {f:Nat->Bool} {d:Option Nat} {e:Eff}:∀ {l:List (Oper × Eff)} {i0:Nat} {σ:St},(∀ i o e',l[i]? = some (o,e')->f (i0+i)=true->Apart d o.dst e e')->Same (runF f i0 (σ.app d e) l) ((runF f i0 σ l).app d e)
 | [],_,_,_=>Same.rfl'
 | (o,e') :: l,i0,σ,h=>by
  have ih:=fun τ=>runF_app (l:=l) (i0:=i0+1) (σ:=τ) (f:=f) (d:=d) (e:=e) (fun i o e' hi hf=>h (i+1) o e' (by simpa using hi) (by rw [show i0+(i+1)=i0+1+i by omega]; exact hf))
  simp only [runF]
  cases hf:f i0 with
  | false=>exact ih σ
  | true =>
   simp only [cond_true]
   exact (runF_same (app_comm (h 0 o e' rfl (by simpa using hf)))).trans' (ih _)
theorem runF_ins {f:Nat->Bool} {i:Nat} (hfi:f i=false):∀ {l:List (Oper × Eff)} {i0:Nat} {σ:St} {o:Oper} {e:Eff},i0<=i->l[i - i0]? = some (o,e)->(∀ j o' e',l[j]? = some (o',e')->f (i0+j)=true->i < i0+j->Apart o.dst o'.dst e e') →
  Same (runF (fun j=>f j || j == i) i0 σ l) ((runF f i0 σ l).app o.dst e)
 | [],_,_,_,_,_,h,_=>by simp at h
 | (o1,e1) :: l,i0,σ,o,e,hle,h,ha=>by
  simp only [runF]
  rcases Nat.lt_or_eq_of_le hle with hlt|rfl
  ·have hne:(i0 == i)=false:=by simp; omega
   rw [hne,Bool.or_false]
   refine runF_ins hfi (by omega) ?_ fun j o' e' hj hf hji=>ha (j+1) o' e' (by simpa using hj) (by rw [show i0+(j+1)=i0+1+j by omega]; exact hf) (by omega)
   rw [show i - i0=(i - (i0+1))+1 by omega] at h
   simpa using h
  ·simp only [Nat.sub_self,List.getElem?_cons_zero,Option.some.injEq,Prod.mk.injEq] at h
   obtain ⟨rfl,rfl⟩:=h
   rw [hfi]
   simp only [beq_self_eq_true,Bool.or_true,cond_true,cond_false]
   have h1:Same (runF (fun j=>f j || j == i0) (i0+1) (σ.app o1.dst e1) l) (runF f (i0+1) (σ.app o1.dst e1) l):=by
    refine ⟨fun d=>(runF_tm (fun j o' e' hj _=>?_) rfl).symm,fun k=>(runF_mm (fun j o' e' hj _=>?_) rfl).symm⟩<;>(have:(i0+1+j == i0)=false:=by simp; omega)<;>rw [this,Bool.or_false]
   exact h1.trans' (runF_app fun j o' e' hj hf=>ha (j+1) o' e' (by simpa using hj) (by rw [show i0+(j+1)=i0+1+j by omega]; exact hf) (by omega))
theorem went_at:∀ {os:List Oper} {es:List Eff} {σ:St} {i0:Nat},Went' P c ops σ os es->∀ i o e,(os.zip es)[i]? = some (o,e)->Went P c ops (runF (fun j=>decide (j < i0+i)) i0 σ (os.zip es)) o e
 | [],_,_,_,.nil _,i,o,e,h=>by simp at h
 | o1 :: os,e1 :: es,σ,i0,.cons h1 h2,i,o,e,h=>by
  cases i with
  | zero =>
   simp at h
   obtain ⟨rfl,rfl⟩:=h
   have h0:∀ (l:List (Oper × Eff)) (k:Nat),i0<=k->runF (fun j=>decide (j < i0+0)) k σ l=σ:=by
    intro l
    induction l with
    | nil=>intros; rfl
    | cons x l ih =>
     intro k hk
     have:decide (k < i0+0)=false:=by simp; omega
     simp only [runF,this,cond_false]
     exact ih _ (by omega)
   rw [h0 _ _ (Nat.le_refl _)]; exact h1
  | succ i =>
   have:=went_at (i0:=i0+1) h2 i o e (by simpa using h)
   simp only [List.zip_cons_cons,runF]
   have hd:decide (i0 < i0+(i+1))=true:=by simp
   rw [hd]
   simp only [cond_true]
   have he:(fun j=>decide (j < i0+(i+1)))=fun j=>decide (j < i0+1+i):=by funext j; congr 1; rw [show i0+(i+1)=i0+1+i by omega]
   rw [he]; exact this
end
def mask (acc:List Nat) (o:Oper):Nat:=o.after.toList.foldl (fun s e=>if Region.binds .any e then s ||| 2 ^ e.on ||| acc.getD e.on 0 else s) 0
def masks (ops:List Oper):List Nat:=ops.foldl (fun acc o=>acc++[mask acc o]) []
def rT (ops:List Oper) (o:Oper):List Nat:=opnds o++(match o.guard with|some (j,_)=>(gslot ops j).toList|none=>[])
def inter (a b:List Nat):Bool:=a.any fun x=>b.contains x
def confB (ops:List Oper) (o o':Oper) (t t':List Nat × List Nat):Bool :=
 (match o.dst with|some d=>(rT ops o').contains d || o'.dst == some d|none=>false) ||
 (match o'.dst with|some d=>(rT ops o).contains d|none=>false) || inter t.1 t'.2 || inter t'.1 t.2
def edgesOK (ops:List Oper):Bool:=ops.zipIdx.all fun x=>x.1.after.toList.all fun e=>!Region.binds .any e || decide (e.on < x.2)
def okTr (ops:List Oper) (tr:Tr):Bool :=
 edgesOK ops && (ops.zip tr).zipIdx.all fun y=>(ops.zip tr).zipIdx.all fun x=>!decide (x.2 < y.2) || !confB ops x.1.1 y.1.1 x.1.2 y.1.2 || ((masks ops).getD y.2 0).testBit x.2
theorem mask_len (ops:List Oper):(masks ops).length=ops.length:=by
 unfold masks
 have:∀ (l:List Oper) (acc:List Nat),(l.foldl (fun acc o=>acc++[mask acc o]) acc).length=acc.length+l.length:=by
  intro l
  induction l with
  | nil=>intro acc; rfl
  | cons o l ih=>intro acc; rw [List.foldl_cons,ih]; simp; omega
 simpa using this ops []
theorem mask_bit {acc:List Nat} {o:Oper} {i:Nat} (h:(mask acc o).testBit i=true):∃ e ∈ o.after.toList,Region.binds .any e=true/\(e.on=i\/(acc.getD e.on 0).testBit i=true):=by
 unfold mask at h
 have:∀ (l:List Edge) (s:Nat),(l.foldl (fun s e=>if Region.binds .any e then s ||| 2 ^ e.on ||| acc.getD e.on 0 else s) s).testBit i=true->s.testBit i=true\/∃ e ∈ l,Region.binds .any e=true/\(e.on=i\/(acc.getD e.on 0).testBit i=true):=by
  intro l
  induction l with
  | nil=>intro s h; exact .inl h
  | cons e l ih =>
   intro s h
   rw [List.foldl_cons] at h
   rcases ih _ h with h|⟨e',he',h⟩
   ·by_cases hb:Region.binds .any e=true
    ·rw [if_pos hb,Nat.testBit_or,Nat.testBit_or,Nat.testBit_two_pow] at h
     simp only [Bool.or_eq_true,decide_eq_true_eq] at h
     rcases h with (h|h)|h
     ·exact .inl h
     ·exact .inr ⟨e,List.mem_cons_self,hb,.inl h⟩
     ·exact .inr ⟨e,List.mem_cons_self,hb,.inr h⟩
    ·rw [if_neg hb] at h; exact .inl h
   ·exact .inr ⟨e',List.mem_cons_of_mem _ he',h⟩
 rcases this _ 0 h with h|h
 ·simp at h
 ·exact h
theorem masks_bit {ops:List Oper} {L:Nat->Bool} (hL:∀ j o,ops[j]? = some o->L j=true->∀ e ∈ o.after.toList,Region.binds .any e=true->L e.on=true) :
  ∀ (n j i:Nat) (o:Oper),n<=ops.length->j < n->ops[j]? = some o->(∀ e ∈ o.after.toList,Region.binds .any e=true->L e.on=true)->((masks (ops.take n)).getD j 0).testBit i=true->L i=true:=by
 intro n
 induction n with
 | zero=>intro j i o _ h; omega
 | succ n ih =>
  intro j i o hn hj ho he hb
  have ht:masks (ops.take (n+1))=masks (ops.take n)++[mask (masks (ops.take n)) ops[n]]:=by
   rw [List.take_succ_eq_append_getElem (by omega)]
   simp only [masks,List.foldl_append,List.foldl_cons,List.foldl_nil]
  have hlen:(masks (ops.take n)).length=n:=by rw [mask_len,List.length_take]; omega
  rw [ht] at hb
  rcases Nat.lt_or_ge j n with hjn|hjn
  ·rw [List.getD_eq_getElem?_getD,List.getElem?_append_left (by omega),<-List.getD_eq_getElem?_getD] at hb
   exact ih j i o (by omega) hjn ho he hb
  ·have:j=n:=by omega
   subst this
   rw [List.getD_eq_getElem?_getD,List.getElem?_append_right (by omega),hlen] at hb
   simp only [Nat.sub_self,List.getElem?_cons_zero,Option.getD_some] at hb
   have hoo:o=ops[j]:=by rw [List.getElem?_eq_getElem (by omega)] at ho; injection ho with ho; exact ho.symm
   subst hoo
   obtain ⟨e,hem,hbd,hor⟩:=mask_bit hb
   rcases hor with rfl|hor
   ·exact he e hem hbd
   ·have hLe:=he e hem hbd
    have hlt:e.on < j:=by
     rcases Nat.lt_or_ge e.on j with h|h
     ·exact h
     ·rw [List.getD_eq_getElem?_getD,List.getElem?_eq_none (by omega)] at hor; simp at hor
    exact ih e.on i ops[e.on] (by omega) hlt (List.getElem?_eq_getElem (by omega)) (hL e.on _ (List.getElem?_eq_getElem (by omega)) hLe) hor
end Go.Proofs.YtaflkgjckmfkoaaGreat.DW

namespace Go.Proofs.YtaflkgjckmfkoaaGreat.DW
open Go.RowKit
section
variable {P:Program} {c:Cx} {ops:List Oper}
theorem went_len:∀ {os:List Oper} {es:List Eff} {σ:St},Went' P c ops σ os es->es.length=os.length
 | [],_,_,.nil _=>rfl
 | _ :: _,_ :: _,_,.cons _ h=>by simp [went_len h]
theorem runF_all {f:Nat->Bool}:∀ {l:List (Oper × Eff)} {i0:Nat} {σ:St},(∀ i,i < l.length->f (i0+i)=true)->runF f i0 σ l=runEs σ l
 | [],_,_,_=>rfl
 | (o,e) :: l,i0,σ,h=>by
  have h0:=h 0 (by simp)
  simp only [Nat.add_zero] at h0
  simp only [runF,runEs,h0,cond_true]
  exact runF_all fun i hi=>by rw [show i0+1+i=i0+(i+1) by omega]; exact h _ (by simp; omega)
theorem okTr_conf {tr:Tr} (hok:okTr ops tr=true) {i j:Nat} {o o':Oper} {t t':List Nat × List Nat} (hij:i < j) (hi:ops[i]? = some o) (hj:ops[j]? = some o') (ti:tr[i]? = some t) (tj:tr[j]? = some t')
  (hc:confB ops o o' t t'=true):((masks ops).getD j 0).testBit i=true:=by
 simp only [okTr,Bool.and_eq_true] at hok
 have h2:=hok.2
 rw [List.all_eq_true] at h2
 have m1:((o',t'),j) ∈ (ops.zip tr).zipIdx:=List.mk_mem_zipIdx_iff_getElem?.2 (by rw [List.getElem?_zip_eq_some]; exact ⟨hj,tj⟩)
 have m2:((o,t),i) ∈ (ops.zip tr).zipIdx:=List.mk_mem_zipIdx_iff_getElem?.2 (by rw [List.getElem?_zip_eq_some]; exact ⟨hi,ti⟩)
 have h3:=h2 _ m1
 rw [List.all_eq_true] at h3
 have h4:=h3 _ m2
 simp only [hij,decide_true,Bool.not_true,Bool.false_or,hc] at h4
 exact h4
theorem okTr_edges {tr:Tr} (hok:okTr ops tr=true) {i:Nat} {o:Oper} (hi:ops[i]? = some o) {e:Edge} (he:e ∈ o.after.toList) (hb:Region.binds .any e=true):e.on < i:=by
 simp only [okTr,Bool.and_eq_true,edgesOK] at hok
 have h1:=hok.1
 rw [List.all_eq_true] at h1
 have:=h1 (o,i) (List.mk_mem_zipIdx_iff_getElem?.2 hi)
 rw [List.all_eq_true] at this
 have:=this e he
 simpa [hb] using this
theorem mem_ready {listed:Array Bool} {i:Nat}:i ∈ Region.ready .any ops.toArray listed ↔ i < ops.length/\listed.getD i true=false/\∃ o,ops[i]? = some o/\∀ e ∈ o.after.toList,Region.binds .any e=true->listed.getD e.on false=true:=by
 unfold Region.ready
 simp only [List.size_toArray,List.mem_filter,List.mem_range,Bool.and_eq_true,Bool.not_eq_true',List.getElem?_toArray]
 refine and_congr_right fun hi=>and_congr_right fun _=>?_
 rw [List.getElem?_eq_getElem hi]
 simp only [Option.map_some,Option.getD_some,Option.some.injEq,exists_eq_left']
 rw [<-Array.all_toList,List.all_eq_true]
 refine forall_congr' fun e=>?_
 refine imp_congr_right fun _=>?_
 cases hb:Region.binds .any e<;>simp
theorem inter_mem {a b:List Nat} {k:Nat} (h1:k ∈ a) (h2:k ∈ b):inter a b=true:=List.any_eq_true.2 ⟨k,h1,by simpa using h2⟩
def unl (n:Nat) (listed:Array Bool):List Nat:=(List.range n).filter fun i=>!listed.getD i true
theorem getD_set {a:Array Bool} {i j:Nat} {d:Bool} (hi:i < a.size):(a.setIfInBounds i true).getD j d=if j=i then true else a.getD j d:=by
 rw [Array.getD_eq_getD_getElem?,Array.getD_eq_getD_getElem?]
 by_cases h:j=i
 ·subst h; rw [Array.getElem?_setIfInBounds_self_of_lt hi]; simp
 ·rw [Array.getElem?_setIfInBounds_ne (Ne.symm h)]; simp [h]
theorem getD_d {a:Array Bool} {i:Nat} (h:i < a.size):a.getD i true=a.getD i false:=by
 rw [Array.getD_eq_getD_getElem?,Array.getD_eq_getD_getElem?,Array.getElem?_eq_getElem h]; rfl
theorem wpAny_went {Q:Exit->Act->World->Prop} {σ0:St} {es:List Eff} (hw:Went' P c ops σ0 ops es) (hok:okTr ops (es.map Eff.te)=true) (hQ:∀ Γ' a' w',Sim c (runEs σ0 (ops.zip es)) Γ' a' w'->Q .normal a' w') :
  ∀ (fuel:Nat) (listed:Array Bool) (a:Act) (w:World) (Γ:Asg),listed.size=ops.length->(∀ j o,ops[j]? = some o->listed.getD j false=true->∀ e ∈ o.after.toList,Region.binds .any e=true->listed.getD e.on false=true) →
   (unl ops.length listed).length<=fuel->Sim c (runF (fun i=>listed.getD i false) 0 σ0 (ops.zip es)) Γ a w->wpAny P .any ops.toArray Q fuel listed a w:=by
 have hlen:=went_len hw
 have hdone:∀ (listed:Array Bool) (a:Act) (w:World) (Γ:Asg),listed.size=ops.length->Sim c (runF (fun i=>listed.getD i false) 0 σ0 (ops.zip es)) Γ a w->Region.ready .any ops.toArray listed=[]->Q .normal a w:=by
  intro listed a w Γ hsz hs hr
  have hall:∀ i,i < ops.length->listed.getD i false=true:=by
   intro i
   induction i using Nat.strongRecOn with
   | _ i ih =>
    intro hi
    cases hl:listed.getD i false with
    | true=>rfl
    | false =>
     exfalso
     have:i ∈ Region.ready .any ops.toArray listed:=by
      refine mem_ready.2 ⟨hi,by rw [getD_d (by omega)]; exact hl,_,List.getElem?_eq_getElem hi,fun e he hb=>?_⟩
      have hlt:=okTr_edges hok (List.getElem?_eq_getElem hi) he hb
      exact ih _ hlt (by omega)
     rw [hr] at this; cases this
  rw [runF_all fun i hi=>by rw [Nat.zero_add]; exact hall i (by simp at hi; omega)] at hs
  exact hQ Γ a w hs
 intro fuel
 induction fuel with
 | zero =>
  intro listed a w Γ hsz hcl hun hs
  have hr:Region.ready .any ops.toArray listed=[]:=by
   refine List.eq_nil_iff_forall_not_mem.2 fun i hi=>?_
   obtain ⟨h1,h2,_⟩:=mem_ready.1 hi
   have:i ∈ unl ops.length listed:=List.mem_filter.2 ⟨List.mem_range.2 h1,by rw [h2]; rfl⟩
   rw [List.eq_nil_of_length_eq_zero (Nat.le_zero.1 hun)] at this
   cases this
  exact ⟨hr,hdone listed a w Γ hsz hs hr⟩
 | succ fuel ih =>
  intro listed a w Γ hsz hcl hun hs
  refine ⟨hdone listed a w Γ hsz hs,fun i hi=>?_⟩
  obtain ⟨h1,h2,o,ho,hedge⟩:=mem_ready.1 hi
  have hfi:listed.getD i false=false:=by rw [<-getD_d (by omega)]; exact h2
  have hie:i < es.length:=by omega
  have he:es[i]? = some es[i]:=List.getElem?_eq_getElem hie
  have hz:(ops.zip es)[i]? = some (o,es[i]):=by rw [List.getElem?_zip_eq_some]; exact ⟨ho,he⟩
  have hwent:=went_at (i0:=0) hw i o es[i] hz
  simp only [Nat.zero_add] at hwent
  have hte:(es.map Eff.te)[i]? = some es[i].te:=by rw [List.getElem?_map,he]; rfl
  have hbef:∀ j oj ej,(ops.zip es)[j]? = some (oj,ej)->j < i->confB ops oj o ej.te es[i].te=true->listed.getD j false=true:=by
   intro j oj ej hj hji hc
   rw [List.getElem?_zip_eq_some] at hj
   have hb:=okTr_conf hok hji hj.1 ho (by rw [List.getElem?_map,hj.2]; rfl) hte hc
   have:=masks_bit (L:=fun i=>listed.getD i false) hcl ops.length i j o (Nat.le_refl _) h1 ho hedge (by rw [List.take_length]; exact hb)
   exact this
  have haft:∀ j oj ej,(ops.zip es)[j]? = some (oj,ej)->i < j->confB ops o oj es[i].te ej.te=true->listed.getD j false=false:=by
   intro j oj ej hj hij hc
   rw [List.getElem?_zip_eq_some] at hj
   have hb:=okTr_conf hok hij ho hj.1 hte (by rw [List.getElem?_map,hj.2]; rfl) hc
   cases hl:listed.getD j false with
   | false=>rfl
   | true =>
    have hjl:=(List.getElem?_eq_some_iff.1 hj.1).1
    have:=masks_bit (L:=fun i=>listed.getD i false) hcl ops.length j i oj (Nat.le_refl _) hjl hj.1 (hcl j oj hj.1 hl) (by rw [List.take_length]; exact hb)
    rw [show listed.getD i false=true from this] at hfi; cases hfi
  have hagT:∀ d,d ∈ rT ops o->look (runF (fun i=>listed.getD i false) 0 σ0 (ops.zip es)).tmps d=look (runF (fun j=>decide (j < i)) 0 σ0 (ops.zip es)).tmps d:=by
   intro d hd
   refine runF_tm (fun j oj ej hj hdj=>?_) rfl
   rw [Nat.zero_add]
   rcases Nat.lt_trichotomy j i with hji|rfl|hij
   ·rw [hbef j oj ej hj hji (by simp [confB,hdj,hd])]; simp [hji]
   ·rw [hfi]; simp
   ·rw [haft j oj ej hj hij (by simp [confB,hdj,hd])]; simp; omega
  have hagM:∀ k,k ∈ es[i].mems.map (·.1)++es[i].rd->look (runF (fun i=>listed.getD i false) 0 σ0 (ops.zip es)).mem k=look (runF (fun j=>decide (j < i)) 0 σ0 (ops.zip es)).mem k:=by
   intro k hk
   refine runF_mm (fun j oj ej hj hkj=>?_) rfl
   rw [Nat.zero_add]
   have hin:inter ej.te.1 es[i].te.2=true:=inter_mem hkj hk
   rcases Nat.lt_trichotomy j i with hji|rfl|hij
   ·rw [hbef j oj ej hj hji (by simp [confB,hin])]; simp [hji]
   ·rw [hfi]; simp
   ·rw [haft j oj ej hj hij (by simp [confB,hin])]; simp; omega
  have hins:=runF_ins (f:=fun i=>listed.getD i false) hfi (l:=ops.zip es) (i0:=0) (σ:=σ0) (Nat.zero_le _) hz fun j oj ej hj hf hij=>by
   rw [Nat.zero_add] at hf hij
   refine ⟨fun x hx hx'=>?_,fun k hk hk'=>?_⟩
   ·have:=haft j oj ej hj hij (by simp [confB,hx,hx'])
    rw [hf] at this; cases this
   ·have hin:inter es[i].te.1 ej.te.2=true:=inter_mem hk (List.mem_append.2 (.inl hk'))
    have:=haft j oj ej hj hij (by simp [confB,hin])
    rw [hf] at this; cases this
  unfold wpOp
  rw [List.getElem?_toArray,ho]
  simp only
  have hnext:∀ Γ' a' w',Sim c ((runF (fun i=>listed.getD i false) 0 σ0 (ops.zip es)).app o.dst es[i]) Γ' a' w'->wpAny P .any ops.toArray Q fuel (listed.setIfInBounds i true) a' w':=by
   intro Γ' a' w' hs'
   refine ih _ a' w' Γ' (by simp [hsz]) (fun j oj hj hl e he' hb=>?_) ?_ ?_
   ·rw [getD_set (by omega)]
    rw [getD_set (by omega)] at hl
    split
    ·rfl
    ·by_cases hji:j=i
     ·subst hji
      rw [ho] at hj; injection hj with hj; subst hj
      exact hedge e he' hb
     ·rw [if_neg hji] at hl
      exact hcl j oj hj hl e he' hb
   ·have hsub:unl ops.length (listed.setIfInBounds i true)=(unl ops.length listed).filter fun j=>!(listed.setIfInBounds i true).getD j true:=by
     unfold unl
     rw [List.filter_filter]
     refine List.filter_congr fun j _=>?_
     rw [getD_set (by omega)]
     by_cases hji:j=i
     ·simp [hji]
     ·simp [hji]
    have hlt:(unl ops.length (listed.setIfInBounds i true)).length < (unl ops.length listed).length:=by
     rw [hsub]
     refine List.length_filter_lt_length_iff_exists.2 ⟨i,List.mem_filter.2 ⟨List.mem_range.2 h1,by rw [h2]; rfl⟩,?_⟩
     rw [getD_set (by omega)]; simp
    omega
   ·refine hs'.same (Same.trans' ⟨fun d=>(hins.1 d).symm,fun k=>(hins.2 k).symm⟩ ?_)
    have:(fun j=>listed.getD j false || j == i)=fun j=>(listed.setIfInBounds i true).getD j false:=by
     funext j
     rw [getD_set (by omega)]
     by_cases hji:j=i
     ·simp [hji]
     ·simp [hji]
    rw [this]; exact Same.rfl'
  have hstep:=hwent.step (Q:=Q) (K:=wpAny P .any ops.toArray Q fuel (listed.setIfInBounds i true)) hs (fun t ht=>hagT t (List.mem_append.2 (.inl ht))) (fun j want g hg hgs=>hagT g (List.mem_append.2 (.inr (by rw [hg]; simp [hgs])))) hagM hnext
  split
  ·rename_i hwt; rw [if_pos hwt] at hstep; exact .inl hstep
  ·rename_i hwt; rw [if_neg hwt] at hstep; exact hstep
theorem region_draw {Q:Exit->Act->World->Prop} {T:TypeId->Option Ty} (hT:TabOK P T) (hmix:P.follows .mixedOrders=true) {id:Nat} {σ:St} {Γ:Asg} {a:Act} {w:World} (hs:Sim c σ Γ a w) {QA:St->Prop}
  (h:AO P T c.n ops ops σ [] fun σ' tr=>okTr ops tr=true/\QA σ') (hQ:∀ σ' Γ' a' w',QA σ'->Sim c σ' Γ' a' w'->Q .normal a' w'):(Code.region id ops.toArray true).wp P Q a w:=by
 obtain ⟨es,σ',h1,⟨h2,h3⟩,h4⟩:=AO_went hT h Same.rfl'
 simp only [List.nil_append] at h2
 refine wp_region_any hmix ?_
 have hs':Sim c σ Γ a { w with drawn:=w.drawn+1 }:=hs.frame ⟨rfl,rfl,rfl,Nat.le_refl _,fun _ _=>rfl⟩
 refine wpAny_went h1 h2 (fun Γ' a' w' hs'=>hQ σ' Γ' a' w' h3 (hs'.same h4)) _ _ a _ Γ (by simp) (fun j o _ hl=>?_) ?_ ?_
 ·rw [Array.getD_eq_getD_getElem?] at hl
  by_cases hj:j < ops.length
  ·simp [hj] at hl
  ·simp [hj] at hl
 ·unfold unl
  refine Nat.le_trans (List.length_filter_le _ _) (by simp)
 ·have:∀ (l:List (Oper × Eff)) (k:Nat) (τ:St),runF (fun i=>(Array.replicate ops.toArray.size false).getD i false) k τ l=τ:=by
   intro l
   induction l with
   | nil=>intros; rfl
   | cons x l ih =>
    intro k τ
    have hf:(Array.replicate ops.toArray.size false).getD k false=false:=by
     rw [Array.getD_eq_getD_getElem?]
     by_cases hk:k < ops.length<;>simp [hk]
    simp only [runF,hf,cond_false]
    exact ih _ _
  rw [this]; exact hs'
theorem region_text {Q:Exit->Act->World->Prop} {T:TypeId->Option Ty} (hT:TabOK P T) {id:Nat} {σ:St} {Γ:Asg} {a:Act} {w:World} (hs:Sim c σ Γ a w) {QA:St->Prop}
  (h:AO P T c.n ops ops σ [] fun σ' _=>QA σ') (hQ:∀ σ' Γ' a' w',QA σ'->Sim c σ' Γ' a' w'->Q .normal a' w'):(Code.region id ops.toArray false).wp P Q a w:=by
 obtain ⟨es,σ',h1,h3,h4⟩:=AO_went hT h Same.rfl'
 exact wp_region_lit (went_list h1 hs fun Γ' a' w' hs'=>hQ σ' Γ' a' w' h3 (hs'.same h4))
end
end Go.Proofs.YtaflkgjckmfkoaaGreat.DW

namespace Go.Proofs.YtaflkgjckmfkoaaGreat.DW
open Go.RowKit
def nrow (B:Option Blk) (p:Prop):Prop:=match B with
 | some (.row ..)=>p
 | _=>True
section
variable (σm τm:Nat->Option Blk) (ρ:Nat->Nat) (rng:List Nat)
def LeC (u v:AV):Prop :=
 match v with
 | .sc x=>u=.sc x
 | .sl t l=>(u.data σm=some ⟨t,l⟩/\∀ k ∈ u.rows,nrow (σm k) (k ∉ rng))\/(u=.sc (.slice none 0 0)/\l=[])
 | .row k ver =>
  match τm k,u with
  | some (.row _ _ v _ _),.row k0 ver0=>k0=ρ k/\v=ver/\(match σm k0 with|some (.row _ _ v0 _ _)=>v0=ver0|_=>False)
  | some (.odat _ _),.row k0 ver0=>k0=ρ k/\ver=0/\ver0=0
  | some (.mine _ _),.row k0 ver0=>k0=ρ k/\ver=0/\ver0=0
  | _,_=>False
 | .ptr k off=>u=.ptr (ρ k) off/\∃ x cs,τm k=some (.bx x cs)
 | .ref t x off=>u=.ref t x off/\rng=rng
 | .ex e t x=>u=.ex e t x/\rng=rng
 | .fx v t l=>u=.fx v t l/\rng=rng
 | _=>False
def LeA (u v:AV):Prop :=
 match v with
 | .agg cs=>match u with
  | .agg cs0=>All2 (LeC σm τm ρ rng) cs0 cs
  | _=>False
 | v=>LeC σm τm ρ rng u v
def LeV (u v:AV):Prop :=
 match v with
 | .junk=>True
 | .tup vs=>match u with
  | .tup us=>All2 (LeA σm τm ρ rng) us vs
  | _=>False
 | v=>LeA σm τm ρ rng u v
def wkT (σ:Tm):Tm->Prop
 | []=>True
 | (d,v) :: l=>(match look σ d with|some u=>LeV σm τm ρ rng u v|none=>False)/\wkT σ l
def wkB (k:Nat) (B:Blk):Prop :=
 match B with
 | .row e t _ o l=>match σm (ρ k) with
  | some (.row e0 t0 _ o0 l0)=>e0=e/\(⟨t0,l0⟩:Lst)=⟨t,l⟩/\(o=true->o0=true)
  | _=>False
 | .odat t l=>match σm (ρ k) with
  | some (.odat t0 l0)=>(⟨t0,l0⟩:Lst)=⟨t,l⟩
  | _=>False
 | .mine t l=>match σm (ρ k) with
  | some (.mine t0 l0)=>(⟨t0,l0⟩:Lst)=⟨t,l⟩
  | _=>False
 | .bx x cs=>match σm (ρ k) with
  | some (.bx x0 cs0)=>x0=x/\All2 (LeC σm τm ρ rng) cs0 cs
  | _=>False
 | _=>False
def wkM:Mm->Prop
 | []=>True
 | (k,B) :: l=>wkB σm τm ρ rng k B/\wkM l
end
def ren (L:List (Nat × Nat)) (k:Nat):Nat:=(look L k).getD k
def Wk (σ τ:St):Prop :=
 ∃ L:List (Nat × Nat),((τ.mem.map fun p=>ren L p.1).Nodup)/\wkT (look σ.mem) (look τ.mem) (ren L) (τ.mem.map fun p=>ren L p.1) σ.tmps τ.tmps/\wkM (look σ.mem) (look τ.mem) (ren L) (τ.mem.map fun p=>ren L p.1) τ.mem
section
variable {c:Cx} {σ τ:St} {Γ:Asg} {a:Act} {w:World} {ρ:Nat->Nat} {rng:List Nat}
def Asg.ren (Γ:Asg) (ρ:Nat->Nat):Asg:=⟨fun k=>Γ.β (ρ k),fun k=>Γ.hd (ρ k),fun k=>Γ.fp (ρ k)⟩
theorem wkM_get {σm τm:Nat->Option Blk}:∀ {M:Mm} {k:Nat} {B:Blk},wkM σm τm ρ rng M->look M k=some B->wkB σm τm ρ rng k B
 | [],_,_,_,h=>by cases h
 | (j,C) :: M,k,B,⟨h1,h2⟩,h=>by
  simp only [look] at h
  split at h
  ·rename_i e; injection h with h; subst h e; exact h1
  ·exact wkM_get h2 h
theorem wkT_get {σm τm:Nat->Option Blk} {σt:Tm}:∀ {M:Tm} {k:Nat} {v:AV},wkT σm τm ρ rng σt M->look M k=some v->∃ u,look σt k=some u/\LeV σm τm ρ rng u v
 | [],_,_,_,h=>by cases h
 | (j,C) :: M,k,v,⟨h1,h2⟩,h=>by
  simp only [look] at h
  split at h
  ·rename_i e; injection h with h; subst h e
   split at h1
   ·rename_i u hu; exact ⟨u,hu,h1⟩
   ·exact h1.elim
  ·exact wkT_get h2 h
theorem wk_mut {B:Blk} {k b:Nat} (hB:wkB (look σ.mem) (look τ.mem) ρ rng k B) (hm:B.mut (Γ.ren ρ) k b):∃ B0,look σ.mem (ρ k)=some B0/\B0.mut Γ (ρ k) b:=by
 unfold wkB at hB
 split at hB
 ·split at hB
  ·rename_i h0; exact ⟨_,h0,hm⟩
  ·exact hB.elim
 ·exact hm.elim
 ·split at hB
  ·rename_i h0; exact ⟨_,h0,hm⟩
  ·exact hB.elim
 ·split at hB
  ·rename_i h0; obtain ⟨rfl,_⟩:=hB; exact ⟨_,h0,hm⟩
  ·exact hB.elim
 ·exact hB.elim
theorem wk_Gd (hM:wkM (look σ.mem) (look τ.mem) ρ rng τ.mem) {b:Nat} (hg:Gd c σ.mem Γ b):Gd c τ.mem (Γ.ren ρ) b :=
 ⟨hg.1,fun ⟨k,B,hk,hm⟩=>by
  obtain ⟨B0,h1,h2⟩:=wk_mut (wkM_get hM hk) hm
  exact hg.2 ⟨_,B0,h1,h2⟩⟩
theorem wk_crep (hs:Sim c σ Γ a w) (hrng:rng=τ.mem.map fun p=>ρ p.1) (hM:wkM (look σ.mem) (look τ.mem) ρ rng τ.mem) {u v:AV} {x:Value} (hu:CRep c σ.mem Γ w u x) (hle:LeC (look σ.mem) (look τ.mem) ρ rng u v):CRep c τ.mem (Γ.ren ρ) w v x:=by
 cases v with
 | sc y=>obtain rfl:u=.sc y:=hle; exact hu
 | sl t l =>
  rcases hle with ⟨hd,hr⟩|⟨rfl,rfl⟩
  ·by_cases hrow:∃ k ver e v' o' l',u=.row k ver/\look σ.mem k=some (.row e t v' o' l')
   ·obtain ⟨k,ver,e,v',o',l',rfl,hk⟩:=hrow
    have hd':=hd
    simp only [AV.data,hk,Option.bind_some,Blk.data] at hd'
    split at hd'
    ·rename_i hvv
     injection hd' with hd'; injection hd' with _ d2
     obtain rfl:=d2
     obtain ⟨fps,hg,hf,hgd,_⟩:=hs.mm k _ hk
     obtain ⟨_,B,hB,hbh⟩:=hu
     rw [hk] at hB; injection hB with hB; subst hB
     rw [hbh.2 hvv]
     obtain ⟨fp,hrep,hfp⟩:=grow_rep hg
     refine ⟨fp,hrep,fun b hb=>?_⟩
     rcases hfp with rfl|⟨g,hgo,rfl,hbg,_⟩
     ·cases hb
     ·rcases List.mem_cons.1 hb with rfl|hb
      ·refine ⟨.inr hbg,fun ⟨j,B,hj,hm⟩=>?_⟩
       obtain ⟨B0,h1,h2⟩:=wk_mut (wkM_get hM hj) hm
       have:=hs.inj _ _ _ _ b h1 hk h2 hgo
       have hr1:=hr k (by simp [AV.rows])
       rw [hk] at hr1
       refine hr1 ?_
       rw [hrng,<-this]
       obtain ⟨q,hq,e⟩:=look_mem hj
       exact List.mem_map.2 ⟨q,hq,by rw [e]⟩
      ·exact wk_Gd hM (hgd b (hf ▸ hb))
    ·cases hd'
   ·obtain ⟨fp,hrep,_,hg⟩:=hs.sliceRep hu hd
    refine ⟨fp,hrep,fun b hb=>wk_Gd hM (hg (fun k ver e e' t' v' o' l' hk=>?_) b hb)⟩
    subst e
    have hd2:=hd
    simp only [AV.data,hk,Option.bind_some,Blk.data] at hd2
    split at hd2
    ·injection hd2 with hd2; injection hd2 with d1 d2
     subst d1
     exact hrow ⟨k,ver,e',v',o',l',rfl,hk⟩
    ·cases hd2
  ·obtain ⟨rfl,_⟩:=hu
   exact ⟨[],⟨none,0,rfl,Nat.le_refl _,Nat.zero_le _,.inl ⟨rfl,rfl⟩⟩,fun b hb=>by cases hb⟩
 | row k ver =>
  unfold LeC at hle
  simp only at hle
  split at hle
  ·rename_i e t v' o l k0 ver0 hk
   obtain ⟨rfl,rfl,hle⟩:=hle
   split at hle
   ·rename_i e0 t0 v0 o0 l0 hk0
    subst hle
    obtain ⟨h1,B,hB,hh⟩:=hu
    rw [hk0] at hB; injection hB with hB; subst hB
    exact ⟨h1,_,hk,Nat.le_refl _,fun _=>hh.2 rfl⟩
   ·exact hle.elim
  ·rename_i t l k0 ver0 hk
   obtain ⟨rfl,rfl,rfl⟩:=hle
   have hwb:=wkM_get hM hk
   simp only [wkB] at hwb
   split at hwb
   ·rename_i t0 l0 hk0
    obtain ⟨h1,B,hB,hh⟩:=hu
    rw [hk0] at hB; injection hB with hB; subst hB
    exact ⟨h1,_,hk,fun _=>hh rfl⟩
   ·exact hwb.elim
  ·rename_i t l k0 ver0 hk
   obtain ⟨rfl,rfl,rfl⟩:=hle
   have hwb:=wkM_get hM hk
   simp only [wkB] at hwb
   split at hwb
   ·rename_i t0 l0 hk0
    obtain ⟨h1,B,hB,hh⟩:=hu
    rw [hk0] at hB; injection hB with hB; subst hB
    exact ⟨h1,_,hk,fun _=>hh rfl⟩
   ·exact hwb.elim
  ·exact hle.elim
 | ptr k off =>
  obtain ⟨rfl,xo,cs,hk⟩:=hle
  obtain ⟨xo',cs',hq,rfl⟩:=hu
  have hwb:=wkM_get hM hk
  simp only [wkB,hq] at hwb
  obtain ⟨rfl,_⟩:=hwb
  exact ⟨_,cs,hk,rfl⟩
 | fx y t l =>
  obtain ⟨rfl,_⟩:=hle
  obtain ⟨e,fp,hr,hg⟩:=hu
  exact ⟨e,fp,hr,fun b hb=>wk_Gd hM (hg b hb)⟩
 | ex e t y =>
  obtain ⟨rfl,_⟩:=hle
  obtain ⟨fp,hr,hg⟩:=hu
  exact ⟨fp,hr,fun b hb=>wk_Gd hM (hg b hb)⟩
 | ref t y off =>
  obtain ⟨rfl,_⟩:=hle
  obtain ⟨b,o,cs,fp,rfl,hr,hc,hgb,hg,hl⟩:=hu
  exact ⟨b,o,cs,fp,rfl,hr,hc,wk_Gd hM hgb,fun b' hb'=>wk_Gd hM (hg b' hb'),hl⟩
 | _=>exact hle.elim
theorem All2.imp2 {α β γ:Type} {R:α->γ->Prop} {Q:α->β->Prop} {R':β->γ->Prop}:∀ {l:List α} {m:List β} {n:List γ},(∀ a b x,R a x->Q a b->R' b x)->All2 R l n->All2 Q l m->All2 R' m n
 | [],[],[],_,_,_=>trivial
 | _ :: _,_ :: _,_ :: _,h,⟨h1,h2⟩,⟨h3,h4⟩=>⟨h _ _ _ h1 h3,All2.imp2 h h2 h4⟩
 | [],_ :: _,_,_,_,h=>h.elim
 | _ :: _,[],_,_,_,h=>h.elim
 | [],[],_ :: _,_,h,_=>h.elim
 | _ :: _,_ :: _,[],_,h,_=>h.elim
def AV.isCell:AV->Bool
 | .junk|.agg _|.tup _=>false
 | _=>true
theorem LeC_cell {σm τm:Nat->Option Blk} {u v:AV} (h:LeC σm τm ρ rng u v):u.isCell=true:=by
 cases v with
 | sc x=>obtain rfl:u=.sc x:=h; rfl
 | sl t l =>
  rcases h with ⟨h,_⟩|⟨rfl,_⟩
  ·cases u<;>first|rfl|cases h
  ·rfl
 | row k ver =>
  unfold LeC at h
  simp only at h
  split at h
  ·rfl
  ·rfl
  ·rfl
  ·exact h.elim
 | ptr k off=>obtain ⟨rfl,_⟩:=h; rfl
 | ref t x off=>obtain ⟨rfl,_⟩:=h; rfl
 | ex e t x=>obtain ⟨rfl,_⟩:=h; rfl
 | fx v t l=>obtain ⟨rfl,_⟩:=h; rfl
 | _=>exact h.elim
theorem arep_cell {M:Mm} {u:AV} {x:Value} (h:ARep c M Γ w u x) (hc:u.isCell=true):CRep c M Γ w u x:=by
 cases u<;>first|exact h|cases hc
theorem vrep_cell {M:Mm} {u:AV} {x:Value} (h:VRep c M Γ w u x) (hc:u.isCell=true):CRep c M Γ w u x:=by
 cases u<;>first|exact h|cases hc
theorem nodup_inj {α β:Type} {f:α->β}:∀ {l:List α},(l.map f).Nodup->∀ {x y:α},x ∈ l->y ∈ l->f x=f y->x=y
 | [],_,_,_,h,_,_=>by cases h
 | z :: l,hn,x,y,hx,hy,e=>by
  rw [List.map_cons,List.nodup_cons] at hn
  rcases List.mem_cons.1 hx with e1|h1<;>rcases List.mem_cons.1 hy with e2|h2
  ·rw [e1,e2]
  ·exact (hn.1 (List.mem_map.2 ⟨y,h2,by rw [<-e,e1]⟩)).elim
  ·exact (hn.1 (List.mem_map.2 ⟨x,h1,by rw [e,e2]⟩)).elim
  ·exact nodup_inj hn.2 h1 h2 e
theorem wk_ofp {B:Blk} {k b:Nat} (hB:wkB (look σ.mem) (look τ.mem) ρ rng k B) (hm:b ∈ B.ofp (Γ.ren ρ) k):∃ B0,look σ.mem (ρ k)=some B0/\b ∈ B0.ofp Γ (ρ k):=by
 unfold wkB at hB
 split at hB
 ·rename_i e t v o l
  split at hB
  ·rename_i h0
   cases o with
   | false=>simp [Blk.ofp] at hm
   | true=>exact ⟨_,h0,by rw [hB.2.2 rfl]; exact hm⟩
  ·exact hB.elim
 ·split at hB
  ·rename_i h0; exact ⟨_,h0,hm⟩
  ·exact hB.elim
 ·simp [Blk.ofp] at hm
 ·simp [Blk.ofp] at hm
 ·exact hB.elim
theorem wk_sim (hs:Sim c σ Γ a w) (h:Wk σ τ):∃ Γ',Sim c τ Γ' a w:=by
 obtain ⟨L,hnd,hT,hM⟩:=h
 generalize hrng:(τ.mem.map fun p=>ren L p.1)=rng at hnd hT hM
 have hrng':=hrng.symm
 have hcr:∀ (u v:AV) (x:Value),CRep c σ.mem Γ w u x->LeC (look σ.mem) (look τ.mem) (ren L) rng u v->CRep c τ.mem (Γ.ren (ren L)) w v x:=fun _ _ _ h1 h2=>wk_crep hs hrng' hM h1 h2
 have har:∀ (u v:AV) (x:Value),ARep c σ.mem Γ w u x->LeA (look σ.mem) (look τ.mem) (ren L) rng u v->ARep c τ.mem (Γ.ren (ren L)) w v x:=by
  intro u v x h1 h2
  cases v with
  | agg cs =>
   cases u with
   | agg cs0=>obtain ⟨us,rfl,h1⟩:=h1; exact ⟨us,rfl,All2.imp2 hcr h1 h2⟩
   | _=>exact h2.elim
  | _ =>
   simp only [LeA] at h2
   have h3:=hcr _ _ x (arep_cell h1 (LeC_cell h2)) h2
   simp only [ARep]; exact h3
 have hvr:∀ (u v:AV) (x:Value),VRep c σ.mem Γ w u x->LeV (look σ.mem) (look τ.mem) (ren L) rng u v->VRep c τ.mem (Γ.ren (ren L)) w v x:=by
  intro u v x h1 h2
  cases v with
  | junk=>trivial
  | tup vs =>
   cases u with
   | tup us0=>obtain ⟨us,rfl,h1⟩:=h1; exact ⟨us,rfl,All2.imp2 har h1 h2⟩
   | _=>exact h2.elim
  | agg cs =>
   cases u with
   | agg cs0=>exact har (.agg cs0) (.agg cs) x h1 h2
   | _=>exact h2.elim
  | _ =>
   simp only [LeV,LeA] at h2
   have h3:=hcr _ _ x (vrep_cell h1 (LeC_cell h2)) h2
   simp only [VRep,ARep]; exact h3
 refine ⟨Γ.ren (ren L),fun d v hd=>?_,fun k B hk=>?_,fun k k' B B' b hk hk' hb hb'=>?_,fun k k' B B' b hk hk' hne hb hb'=>?_,hs.below,hs.hb,hs.defs,hs.sz⟩
 ·obtain ⟨u,h1,h2⟩:=wkT_get hT hd
  obtain ⟨x,h3,h4⟩:=hs.tm d u h1
  exact ⟨x,h3,hvr _ _ _ h4 h2⟩
 ·have hwb:=wkM_get hM hk
  cases B with
  | bx xo cs =>
   simp only [wkB] at hwb
   split at hwb
   ·rename_i x0 cs0 hk0
    obtain ⟨rfl,hwb⟩:=hwb
    obtain ⟨e1,us,e,e2,e3⟩:=hs.mm _ _ hk0
    exact ⟨e1,us,e,e2,All2.imp2 hcr e3 hwb⟩
   ·exact hwb.elim
  | row e t v o l =>
   simp only [wkB] at hwb
   split at hwb
   ·rename_i e0 t0 v0 o0 l0 hk0
    obtain ⟨rfl,hdd,ho⟩:=hwb
    injection hdd with d1 d2
    subst d1
    obtain rfl:=eq_of_heq d2
    obtain ⟨fps,e1,e2,e3,e4⟩:=hs.mm _ _ hk0
    exact ⟨fps,e1,e2,fun b hb=>wk_Gd hM (e3 b hb),fun h=>e4 (ho h)⟩
   ·exact hwb.elim
  | odat t l =>
   simp only [wkB] at hwb
   split at hwb
   ·rename_i t0 l0 hk0
    injection hwb with d1 d2
    subst d1
    obtain rfl:=eq_of_heq d2
    obtain ⟨e1,e2,e3⟩:=hs.mm _ _ hk0
    exact ⟨e1,fun b hb=>wk_Gd hM (e2 b hb),e3⟩
   ·exact hwb.elim
  | mine t l =>
   simp only [wkB] at hwb
   split at hwb
   ·rename_i t0 l0 hk0
    injection hwb with d1 d2
    subst d1
    obtain rfl:=eq_of_heq d2
    exact hs.mm _ _ hk0
   ·exact hwb.elim
  | _=>exact hwb.elim
 ·obtain ⟨B0,h1,h2⟩:=wk_mut (wkM_get hM hk) hb
  obtain ⟨B1,h3,h4⟩:=wk_mut (wkM_get hM hk') hb'
  have:=hs.inj _ _ _ _ b h1 h3 h2 h4
  obtain ⟨q,hq,e⟩:=look_mem hk
  obtain ⟨q',hq',e'⟩:=look_mem hk'
  rw [<-hrng] at hnd
  have:=nodup_inj hnd hq hq' (by rw [e,e']; exact this)
  rw [<-e,<-e',this]
 ·obtain ⟨B0,h1,h2⟩:=wk_ofp (wkM_get hM hk) hb
  obtain ⟨B1,h3,h4⟩:=wk_ofp (wkM_get hM hk') hb'
  refine hs.disj _ _ _ _ b h1 h3 (fun he=>hne ?_) h2 h4
  obtain ⟨q,hq,e⟩:=look_mem hk
  obtain ⟨q',hq',e'⟩:=look_mem hk'
  rw [<-hrng] at hnd
  have:=nodup_inj hnd hq hq' (by rw [e,e']; exact he)
  rw [<-e,<-e',this]
end
section
variable (P:Program) (T:TypeId->Option Ty) (n:Nat)
def thenA (next:St->Prop) (Q:Exit->St->Prop):Exit->St->Prop
 | .normal,σ=>next σ
 | e,σ=>Q e σ
def inBlk (id:Nat) (Q:Exit->St->Prop):Exit->St->Prop
 | .exit i,σ=>if i=id then Q .normal σ else Q (.exit i) σ
 | e,σ=>Q e σ
def AC:Code->(Exit->St->Prop)->St->Prop
 | .skip,Q,σ=>Q .normal σ
 | .region _ ops draw,Q,σ =>
  match draw with
  | true=>AO P T n ops.toList ops.toList σ [] (fun σ' tr=>okTr ops.toList tr=true/\Q .normal σ')
  | false=>AO P T n ops.toList ops.toList σ [] (fun σ' _=>Q .normal σ')
 | .seq x y,Q,σ=>AC x (thenA (fun σ'=>AC y Q σ') Q) σ
 | .cond c x y,Q,σ =>
  match ev (look σ.tmps) c with
  | some (.sc (.bool b))=>(b=true->AC x Q σ)/\(b=false->AC y Q σ)
  | some (.nb p q)=>(p->AC x Q σ)/\(q->AC y Q σ)
  | _=>False
 | .block id x,Q,σ=>AC x (inBlk id Q) σ
 | .loop x,Q,σ=>∃ (δ:Type) (S:δ->St) (ok:δ->Prop) (μ:δ->Nat) (x0:δ),Wk σ (S x0)/\ok x0/\∀ y,ok y->AC x (thenA (fun σ'=>∃ y',Wk σ' (S y')/\ok y'/\μ y' < μ y) Q) (S y)
 | .exit id,Q,σ=>Q (.exit id) σ
 | .ret,Q,σ=>Q .ret σ
 | _,_,_=>False
end
section
variable {P:Program} {T:TypeId->Option Ty} {c:Cx}
theorem AC_wp (hT:TabOK P T) (hmix:P.follows .mixedOrders=true):∀ {x:Code} {Q:Exit->St->Prop} {Q':Exit->Act->World->Prop} {σ:St} {Γ:Asg} {a:Act} {w:World},AC P T c.n x Q σ->Sim c σ Γ a w →
  (∀ e σ' Γ' a' w',Q e σ'->Sim c σ' Γ' a' w'->Q' e a' w')->x.wp P Q' a w
 | .skip,Q,Q',σ,Γ,a,w,h,hs,hQ=>wp_skip (hQ _ _ _ _ _ h hs)
 | .region id ops draw,Q,Q',σ,Γ,a,w,h,hs,hQ=>by
  obtain ⟨l⟩:=ops
  cases draw with
  | true=>exact region_draw hT hmix hs h fun σ' Γ' a' w' hq hs'=>hQ _ _ _ _ _ hq hs'
  | false=>exact region_text hT hs h fun σ' Γ' a' w' hq hs'=>hQ _ _ _ _ _ hq hs'
 | .seq x y,Q,Q',σ,Γ,a,w,h,hs,hQ=>by
  refine wp_seq (AC_wp hT hmix (show AC P T c.n x _ σ from h) hs fun e σ' Γ' a' w' hq hs'=>?_)
  cases e with
  | normal=>exact AC_wp hT hmix (show AC P T c.n y Q σ' from hq) hs' hQ
  | _=>exact hQ _ _ _ _ _ hq hs'
 | .cond k x y,Q,Q',σ,Γ,a,w,h,hs,hQ=>by
  simp only [AC] at h
  split at h
  ·rename_i b hb
   have hv:a.eval k=.bool b:=(ev_rep hs (fun t _=>rfl) hb:VRep c σ.mem Γ w _ (a.eval k)).1
   cases b with
   | true=>exact wp_cond_true hv (AC_wp hT hmix (h.1 rfl) hs hQ)
   | false=>exact wp_cond_false hv (AC_wp hT hmix (h.2 rfl) hs hQ)
  ·rename_i p q hb
   obtain ⟨b,hv,hp,hq⟩:=(ev_rep hs (fun t _=>rfl) hb:VRep c σ.mem Γ w _ (a.eval k))
   cases b with
   | true=>exact wp_cond_true hv (AC_wp hT hmix (h.1 (hp rfl)) hs hQ)
   | false=>exact wp_cond_false hv (AC_wp hT hmix (h.2 (hq rfl)) hs hQ)
  ·exact h.elim
 | .block id x,Q,Q',σ,Γ,a,w,h,hs,hQ=>by
  refine wp_block (AC_wp hT hmix (show AC P T c.n x _ σ from h) hs fun e σ' Γ' a' w' hq hs'=>?_)
  cases e with
  | exit i =>
   simp only [inBlk,Exit.inBlock] at hq ⊢
   split
   ·rename_i e; rw [if_pos e] at hq; exact hQ _ _ _ _ _ hq hs'
   ·rename_i e; rw [if_neg e] at hq; exact hQ _ _ _ _ _ hq hs'
  | _=>exact hQ _ _ _ _ _ hq hs'
 | .loop x,Q,Q',σ,Γ,a,w,h,hs,hQ=>by
  obtain ⟨δ,S,ok,μ,x0,hw0,hk0,hround⟩:=h
  have hmin:∀ (a:Act) (w:World),(∃ m,∃ y Γ,ok y/\Sim c (S y) Γ a w/\μ y=m)->∃ m,(∃ y Γ,ok y/\Sim c (S y) Γ a w/\μ y=m)/\∀ y Γ,ok y->Sim c (S y) Γ a w->m<=μ y:=by
   rintro a w ⟨m,hm⟩
   induction m using Nat.strongRecOn with
   | _ m ih =>
    by_cases hlt:∃ y Γ,ok y/\Sim c (S y) Γ a w/\μ y < m
    ·obtain ⟨y,Γ,h1,h2,h3⟩:=hlt
     exact ih (μ y) h3 ⟨y,Γ,h1,h2,rfl⟩
    ·refine ⟨m,hm,fun y Γ h1 h2=>?_⟩
     rcases Nat.lt_or_ge (μ y) m with h3|h3
     ·exact absurd ⟨y,Γ,h1,h2,h3⟩ hlt
     ·exact h3
  have hfun:∃ ν:Act->World->Nat,∀ a w,(∃ m,∃ y Γ,ok y/\Sim c (S y) Γ a w/\μ y=m)->(∃ y Γ,ok y/\Sim c (S y) Γ a w/\μ y=ν a w)/\∀ y Γ,ok y->Sim c (S y) Γ a w->ν a w<=μ y:=by
   refine ⟨fun a w=>@dite _ (∃ m,∃ y Γ,ok y/\Sim c (S y) Γ a w/\μ y=m) (Classical.propDecidable _) (fun h=>Classical.choose (hmin a w h)) (fun _=>0),fun a w h=>?_⟩
   simp only [dif_pos h]
   exact Classical.choose_spec (hmin a w h)
  obtain ⟨ν,hν⟩:=hfun
  obtain ⟨Γ0,hs0⟩:=wk_sim hs hw0
  refine wp_loop (fun a w=>∃ y Γ,ok y/\Sim c (S y) Γ a w) ν ⟨x0,Γ0,hk0,hs0⟩ fun a1 w1 hI=>?_
  obtain ⟨y0,Γ1,h1,h2⟩:=hI
  obtain ⟨⟨y,Γ2,h3,h4,h5⟩,h6⟩:=hν a1 w1 ⟨_,y0,Γ1,h1,h2,rfl⟩
  refine AC_wp hT hmix (hround y h3) h4 fun e σ' Γ' a' w' hq hs'=>?_
  cases e with
  | normal =>
   obtain ⟨y',hwk,hk',hlt⟩:=hq
   obtain ⟨Γ3,hs3⟩:=wk_sim hs' hwk
   refine ⟨⟨y',Γ3,hk',hs3⟩,?_⟩
   have:=(hν a' w' ⟨_,y',Γ3,hk',hs3,rfl⟩).2 y' Γ3 hk' hs3
   omega
  | _=>exact hQ _ _ _ _ _ hq hs'
 | .exit id,Q,Q',σ,Γ,a,w,h,hs,hQ=>wp_exit (hQ _ _ _ _ _ h hs)
 | .ret,Q,Q',σ,Γ,a,w,h,hs,hQ=>wp_ret (hQ _ _ _ _ _ h hs)
 | .rangeFunc ..,_,_,_,_,_,_,h,_,_=>h.elim
 | .scope _,_,_,_,_,_,_,h,_,_=>h.elim
 | .label _,_,_,_,_,_,_,h,_,_=>h.elim
 | .goto _,_,_,_,_,_,_,h,_,_=>h.elim
 | .refuse _,_,_,_,_,_,_,h,_,_=>h.elim
end
end Go.Proofs.YtaflkgjckmfkoaaGreat.DW

namespace Go.Proofs.YtaflkgjckmfkoaaGreat.DW
open Go.RowKit
def Wf:(t:Ty)->t.den->Prop
 | .int,n=>I64 n
 | .bool,_=>True
 | .str,s=>s.size<=maxLen
 | .u8,n=>0<=n/\n<=255
 | .cst _,_=>True
 | .prod a b,x=>Wf a x.1/\Wf b x.2
 | .slice a,l=>l.length<=maxLen/\∀ x ∈ l,Wf a x
 | .ext e a,x=>∀ y,x=some y->e=.ref->Wf a y
theorem rep_wf {w:World}:∀ {t:Ty} {x:t.den} {cs:List Value} {fp:List Nat},t.rp.rep w cs x fp->Wf t x
 | .int,_,_,_,h=>h.2.2
 | .bool,_,_,_,_=>trivial
 | .str,_,_,_,h=>h.2.2
 | .u8,_,_,_,h=>h.2.2
 | .cst _,_,_,_,_=>trivial
 | .prod a b,x,cs,fp,h=>by obtain ⟨c1,c2,f1,f2,_,_,h1,h2⟩:=h; exact ⟨rep_wf h1,rep_wf h2⟩
 | .ext e a,x,cs,fp,h=>by
  intro y hy he
  subst hy he
  obtain ⟨_,_,_,_,_,_,hr,_⟩:=h
  exact rep_wf hr
 | .slice a,l,cs,fp,h=>by
  obtain ⟨ad,cc,rfl,h2,h3,h4⟩:=h
  refine ⟨Nat.le_trans h2 h3,fun x hx=>?_⟩
  rcases h4 with ⟨rfl,_⟩|⟨b,off,fps,hl,_,_,_,he⟩
  ·cases hx
  ·obtain ⟨i,hi,rfl⟩:=List.getElem_of_mem hx
   obtain ⟨f,cs,_,hr,_⟩:=he i _ (List.getElem?_eq_getElem hi)
   exact rep_wf hr
section
variable (T:TypeId->Option Ty) (σ:St)
def aRes:ResultVar->Option AV
 | .tmp t=>look σ.tmps t
 | .cell t ty =>
  match T ty,look σ.tmps t with
  | some tt,some (.ptr k off) =>
   match look σ.mem k with
   | some (.bx _ cs)=>if off+tt.size<=cs.length then some (getC tt cs off) else none
   | _=>none
  | _,_=>none
def OwnA (v:AV):Prop:=(cellsOf v).all (OwnC σ)=true/\(cellRows (cellsOf v)).Nodup
def RetOK (own:Bool) (rs:List ResultVar) (res:List Dat):Prop :=
 match rs,res with
 | [r],[d] =>
  match aRes T σ r with
  | some v=>v.ok=true/\IsV (look σ.mem) d v/\(own=true->OwnA σ v)
  | none=>False
 | rs,ds=>rs.length ≠ 1/\All2 (fun r d=>match aRes T σ r with
  | some v=>v.ok=true/\IsV (look σ.mem) d v
  | none=>False) rs ds
end
def argTm (i:Nat):List Dat->Tm
 | []=>[]
 | d :: ds=>(i,av d.1 d.2) :: argTm (i+1) ds
section
variable {P:Program} {T:TypeId->Option Ty} {c:Cx} {σ:St} {Γ:Asg} {a:Act} {w:World}
def resM (tmps:Array Value):ResultVar->Sem Value
 | .tmp t=>pure (tmps.getD t undef)
 | .cell x t=>do loadVar t (<-asAddr (tmps.getD x undef))
theorem results_eq (fn:Func) (tmps:Array Value):results fn tmps=(do let vs <-fn.results.mapM (resM tmps); pure (if h:vs.size=1 then vs[0] else .tuple vs)):=by
 have:(resM tmps)=fun r=>(match r with|.tmp t=>pure (tmps.getD t undef)|.cell x t=>do loadVar t (<-asAddr (tmps.getD x undef)):Sem Value):=by funext r; cases r<;>rfl
 rw [this]; rfl
theorem aRes_run (hT:TabOK P T) (hs:Sim c σ Γ a w) {r:ResultVar} {v:AV} (h:aRes T σ r=some v) (hok:v.ok=true) :
  ∃ u,(resM a.tmps r).run P w=.ok u w/\ARep c σ.mem Γ w v u:=by
 cases r with
 | tmp t =>
  obtain ⟨u,h1,h2⟩:=hs.tm t v h
  refine ⟨u,?_,ok_arep h2 hok⟩
  simp only [resM,Sem.run_pure]
  rw [Array.getD_eq_getD_getElem?,h1]; rfl
 | cell t ty =>
  simp only [aRes] at h
  split at h
  ·rename_i tt k off ht hp
   split at h
   ·rename_i xo cs hk
    split at h
    ·rename_i hle
     injection h with h
     subst h
     obtain ⟨us,e,hg,hc⟩:=box_cell hs hk
     obtain ⟨u,h1,h2⟩:=hs.tm t _ hp
     have h2':u=.pointer (some ⟨Γ.loc k xo,off,none⟩):=by
      obtain ⟨xo',cs',hq,he⟩:=h2
      rw [hk] at hq; cases hq; exact he
     subst h2'
     have hlen:=hc.len
     have hrun:=run_loadVar (P:=P) (hT ty tt ht) (w:=w) (b:=Γ.loc k xo) (off:=off) (us:=(us.toList.drop off).take tt.size) (fun j v hv=>by
      rw [List.getElem?_take] at hv
      split at hv
      ·rw [List.getElem?_drop,Array.getElem?_toList] at hv
       rw [cell_of_row w _ _ us e (0,0) hg]; exact hv
      ·cases hv) (by rw [hlen] at hle; rw [List.length_take,List.length_drop]; omega)
     have hgc:=getC_rep hc hle
     refine ⟨_,?_,hgc⟩
     simp only [resM,Array.getD_eq_getD_getElem?,h1,Option.getD_some,asAddr,Sem.run_bind,Sem.run_pure,Result.andThen_ok,hrun]
     cases ha:tt.isAgg with
     | true=>rfl
     | false =>
      simp only [Bool.false_eq_true,if_false]
      have:=tt.pos; rw [tt.rp_size] at this
      rw [List.getD_eq_getElem?_getD,List.getElem?_take,if_pos this,List.getElem?_drop,Nat.add_zero,List.getD_eq_getElem?_getD]
    ·cases h
   ·cases h
  ·cases h
theorem argTm_ge:∀ {ds:List Dat} {i d:Nat} {v:AV},look (argTm i ds) d=some v->i<=d/\d < i+ds.length/\∃ e,ds[d - i]? = some e/\v=av e.1 e.2
 | [],_,_,_,h=>by cases h
 | e :: ds,i,d,v,h=>by
  simp only [argTm,look] at h
  split at h
  ·rename_i hd; injection h with h; subst hd h; exact ⟨Nat.le_refl _,by simp,e,by simp,rfl⟩
  ·obtain ⟨h1,h2,e',h3,h4⟩:=argTm_ge h
   refine ⟨by omega,by simp; omega,e',?_,h4⟩
   rw [show d - i=(d - (i+1))+1 by omega]; exact h3
theorem ret_ok (hT:TabOK P T) {fn:Func} {own:Bool} {res:List Dat} (hs:Sim c σ Γ a w) (h:RetOK T σ own fn.results.toList res):∃ v,(results fn a.tmps).run P w=.ok v w/\ResOK own c.base c.S w v res:=by
 unfold RetOK at h
 have hone:∀ {r:ResultVar} {d:Dat} {v:AV} {u:Value},ARep c σ.mem Γ w v u->IsV (look σ.mem) d v->DRes false c.base c.S w u d:=by
  intro r d v u hr hi
  obtain ⟨fp,h1,h2,_⟩:=hs.isVRep hr hi
  exact ⟨fp,h1,(fun h=>by cases h),h2⟩
 split at h
 ·rename_i r d hr
  split at h
  ·rename_i v hv
   obtain ⟨hok,hi,hown⟩:=h
   obtain ⟨u,h1,h2⟩:=aRes_run (P:=P) hT hs hv hok
   have hfr:fn.results=#[r]:=toList1 hr
   refine ⟨u,?_,?_⟩
   ·rw [results_eq,hfr,List.mapM_toArray,map_eq_pure_bind,Sem.run_bind,Sem.run_bind]
    simp only [List.mapM_cons,List.mapM_nil,Sem.run_bind,h1,Result.andThen_ok,Sem.run_pure]
    simp
   ·cases own with
    | false=>exact hone (r:=r) h2 hi
    | true =>
     obtain ⟨ho,hn⟩:=hown rfl
     cases v with
     | agg cs =>
      obtain ⟨us,rfl,hc⟩:=h2
      obtain ⟨fp,r1,o1,_⟩:=hs.ownRep hc hi.2 ho hn
      exact ⟨fp,⟨us,.inl ⟨hi.1,rfl⟩,r1⟩,fun _=>o1,fun b hb=>.inr (o1.2 b hb).1⟩
     | junk=>cases hok
     | tup _=>cases hok
     | _ =>
      have h2':=h2
      simp only [ARep] at h2'
      obtain ⟨fp,r1,o1,_⟩:=hs.ownRep (cs:=[_]) (us:=[u]) (And.intro h2' trivial) hi.2 ho hn
      exact ⟨fp,⟨[u],.inr ⟨hi.1,rfl⟩,r1⟩,fun _=>o1,fun b hb=>.inr (o1.2 b hb).1⟩
  ·exact h.elim
 ·rename_i ds _ _ hnot
  obtain ⟨hl1,h⟩:=h
  have key:∀ {rs:List ResultVar} {ds:List Dat},All2 (fun r d=>match aRes T σ r with
    | some v=>v.ok=true/\IsV (look σ.mem) d v
    | none=>False) rs ds->∃ us:List Value,(rs.mapM (resM a.tmps)).run P w=.ok us w/\us.length=rs.length/\All2 (DRes false c.base c.S w) us ds:=by
   intro rs
   induction rs with
   | nil=>intro ds h; cases ds with|nil=>exact ⟨[],rfl,rfl,trivial⟩|cons=>exact h.elim
   | cons r rs ih =>
    intro ds h
    cases ds with
    | nil=>exact h.elim
    | cons d ds =>
     obtain ⟨h1,h2⟩:=h
     split at h1
     ·rename_i v hv
      obtain ⟨u,g1,g2⟩:=aRes_run (P:=P) hT hs hv h1.1
      obtain ⟨us,g3,g4,g5⟩:=ih h2
      refine ⟨u :: us,?_,by simp [g4],hone (r:=r) g2 h1.2,g5⟩
      simp only [List.mapM_cons,Sem.run_bind,g1,g3,Result.andThen_ok,Sem.run_pure]
     ·exact h1.elim
  obtain ⟨us,h1,h2,h3⟩:=key h
  have hfr:fn.results=fn.results.toList.toArray:=by simp
  refine ⟨.tuple us.toArray,?_,?_⟩
  ·rw [results_eq,hfr,List.mapM_toArray,map_eq_pure_bind,Sem.run_bind,Sem.run_bind,h1]
   simp only [Result.andThen_ok,Sem.run_pure]
   rw [dif_neg (by simp only [List.size_toArray]; omega)]
  ·cases ds with
   | nil=>exact ⟨us,rfl,h3⟩
   | cons d ds =>
    cases ds with
    | nil =>
     have:=h3.len
     simp at this
     omega
    | cons d' ds=>exact ⟨us,rfl,h3⟩
theorem fn_gen (hT:TabOK P T) (hmix:P.follows .mixedOrders=true) {f:FuncId} {fn:Func} {code:Code} {args:List Dat} {RQ:St->Prop} {VQ:Nat->(Nat->Prop)->World->Value->Prop} (hf:P.funcs[f]? = some fn) (hname:(fn.name == "runtime.NumGoroutine")=false) (hb:fn.body=some code) (hn:args.length<=fn.ntmps)
  (hret:∀ (c:Cx) (σ:St) (Γ:Asg) (a:Act) (w:World),Sim c σ Γ a w->RQ σ->∃ v,(results fn a.tmps).run P w=.ok v w/\VQ c.base c.S w v)
  (h:(∀ d ∈ args,Wf d.1 d.2)->AC P T fn.ntmps code (fun e σ=>match e with
   | .normal|.ret=>RQ σ
   | _=>False) ⟨argTm 0 args,[]⟩):(∀ vs w,(callFunc f vs).run P w=.ok (.enter f vs) w) ∧
  ∀ (w:World) (vs:List Value) (S:Nat->Prop),All2 (fun v d=>∃ fp,DRep w v d fp/\∀ b ∈ fp,S b) vs args →
   Calls P f vs.toArray w fun e w'=>Below w.heap.size w w'/\∃ v,e=.returned v/\VQ w.heap.size S w' v:=by
 refine ⟨fun vs w=>?_,fun w vs S hargs=>?_⟩
 ·have h1:fn.name ≠ "runtime.NumGoroutine":=by simpa using hname
  simp [callFunc,hf,h1,hb]
 ·refine calls_of_wp hf hb ?_
  have hwf:∀ d ∈ args,Wf d.1 d.2:=by
   clear h hn
   revert hargs
   generalize args=ds
   intro hargs
   induction ds generalizing vs with
   | nil=>intro d hd; cases hd
   | cons d ds ih =>
    cases vs with
    | nil=>exact hargs.elim
    | cons v vs =>
     obtain ⟨⟨fp,⟨cs,_,hr⟩,_⟩,h2⟩:=hargs
     intro d' hd'
     rcases List.mem_cons.1 hd' with rfl|hd'
     ·exact rep_wf hr
     ·exact ih vs h2 d' hd'
  have hlen:=hargs.len
  let c:Cx:=⟨w.heap.size,w,S,fn.ntmps,fun _=>False⟩
  have hlt:∀ {d:Dat} {v:Value} {fp:List Nat},DRep w v d fp->∀ b ∈ fp,b < w.heap.size:=fun ⟨cs,_,hr⟩=>(Ty.rp _).lt hr
  have hs:Sim c ⟨argTm 0 args,[]⟩ ⟨fun _=>0,fun _=>undef,fun _=>[]⟩ { tmps:=vs.toArray++Array.replicate (fn.ntmps - vs.toArray.size) undef,defers:=[] } w:=by
   refine ⟨fun d v hd=>?_,fun k B hk=>(by cases hk),fun k k' B B' b hk=>(by cases hk),fun k k' B B' b hk=>(by cases hk),.of (Below.refl _ _),Nat.le_refl _,rfl,by simp [c]; omega⟩
   obtain ⟨_,h2,e,h3,rfl⟩:=argTm_ge hd
   have hdl:d < vs.length:=by omega
   have hx:∃ u,vs[d]? = some u/\∃ fp,DRep w u e fp/\∀ b ∈ fp,S b:=by
    have hh:∀ {ds:List Dat} {vs:List Value} {d:Nat},All2 (fun v d=>∃ fp,DRep w v d fp/\∀ b ∈ fp,S b) vs ds->ds[d]? = some e->∃ u,vs[d]? = some u/\∃ fp,DRep w u e fp/\∀ b ∈ fp,S b:=by
     intro ds
     induction ds with
     | nil=>intro vs d _ h; simp at h
     | cons d0 ds ih =>
      intro vs d hA h
      cases vs with
      | nil=>exact hA.elim
      | cons v vs =>
       cases d with
       | zero=>simp at h; subst h; exact ⟨v,rfl,hA.1⟩
       | succ d=>simpa using ih hA.2 (by simpa using h)
    exact hh hargs (by simpa using h3)
   obtain ⟨u,hu,fp,hdr,hS⟩:=hx
   refine ⟨u,?_,arep_vrep (av_rep hdr fun b hb=>⟨.inl (hS b hb),fun ⟨k,B,hk,_⟩=>by cases hk⟩)⟩
   rw [Array.getElem?_append_left (by simpa using hdl)]
   simpa using hu
  refine AC_wp (c:=c) hT hmix (h hwf) hs fun e σ' Γ' a' w' hq hs'=>?_
  cases e with
  | normal =>
   obtain ⟨v,h1,h2⟩:=hret _ _ _ _ _ hs' hq
   exact ⟨hs'.defs,v,h1,hs'.below.to,v,rfl,h2⟩
  | ret =>
   obtain ⟨v,h1,h2⟩:=hret _ _ _ _ _ hs' hq
   exact ⟨hs'.defs,v,h1,hs'.below.to,v,rfl,h2⟩
  | _=>exact hq.elim
theorem fn_intro (hT:TabOK P T) (hmix:P.follows .mixedOrders=true) {f:FuncId} {fn:Func} {code:Code} {args:List Dat} {own:Bool} {res:List Dat} (hf:P.funcs[f]? = some fn) (hname:(fn.name == "runtime.NumGoroutine")=false) (hb:fn.body=some code) (hn:args.length<=fn.ntmps)
  (h:(∀ d ∈ args,Wf d.1 d.2)->AC P T fn.ntmps code (fun e σ=>match e with
   | .normal|.ret=>RetOK T σ own fn.results.toList res
   | _=>False) ⟨argTm 0 args,[]⟩):Fn P f args own res :=
 fn_gen (VQ:=fun b S w v=>ResOK own b S w v res) hT hmix hf hname hb hn (fun c σ Γ a w hs hq=>ret_ok (P:=P) hT hs hq) h
def RetT (T:TypeId->Option Ty) (rs:List ResultVar) (res:List Dat) (σ:St):Prop :=
 rs.length ≠ 1/\All2 (fun r d=>match aRes T σ r with
  | some v=>v.ok=true/\IsV (look σ.mem) d v/\OwnA σ v
  | none=>False) rs res
end
end Go.Proofs.YtaflkgjckmfkoaaGreat.DW

namespace Go.Proofs.YtaflkgjckmfkoaaGreat.DW
open Go.RowKit
section
variable (P:Program) (T:TypeId->Option Ty) (n:Nat)
def KAO (ops os:List Oper) (σ:St) (d:Option Nat) (tr:Tr) (Q:St->Tr->Prop) (e:Eff):Prop:=AO P T n ops os (σ.app d e) (tr++[e.te]) Q
def KAC (y:Code) (Q:Exit->St->Prop) (σ:St):Prop:=AC P T n y Q σ
def KN (Q:Exit->St->Prop) (σ:St) (_:Tr):Prop:=Q .normal σ
def KD (ops:List Oper) (Q:Exit->St->Prop) (σ:St) (tr:Tr):Prop:=okTr ops tr=true/\Q .normal σ
def KR (rs:List ResultVar) (own:Bool) (res:List Dat) (e:Exit) (σ:St):Prop :=
 match e with
 | .normal|.ret=>RetOK T σ own rs res
 | _=>False
def KRT (rs:List ResultVar) (res:List Dat) (e:Exit) (σ:St):Prop :=
 match e with
 | .normal|.ret=>RetT T rs res σ
 | _=>False
def LoopG (x:Code) (Q:Exit->St->Prop) (σ:St):Prop:=∃ (δ:Type) (S:δ->St) (ok:δ->Prop) (μ:δ->Nat) (x0:δ),Wk σ (S x0)/\ok x0/\∀ y,ok y->AC P T n x (thenA (fun σ'=>∃ y',Wk σ' (S y')/\ok y'/\μ y' < μ y) Q) (S y)
def LoopK {δ:Type} (S:δ->St) (ok:δ->Prop) (μ:δ->Nat) (y:δ) (σ':St):Prop:=∃ y',Wk σ' (S y')/\ok y'/\μ y' < μ y
theorem LoopG.intro {x:Code} {Q:Exit->St->Prop} {σ:St} {δ:Type} (S:δ->St) (ok:δ->Prop) (μ:δ->Nat) (x0:δ) (h1:Wk σ (S x0)) (h2:ok x0) (h3:∀ y,ok y->AC P T n x (thenA (LoopK S ok μ y) Q) (S y)):LoopG P T n x Q σ:=⟨δ,S,ok,μ,x0,h1,h2,h3⟩
theorem LoopK.mk {δ:Type} {S:δ->St} {ok:δ->Prop} {μ:δ->Nat} {y:δ} {σ':St} (y':δ) (h1:Wk σ' (S y')) (h2:ok y') (h3:μ y' < μ y):LoopK S ok μ y σ':=⟨y',h1,h2,h3⟩
def WkL (L:List (Nat × Nat)) (σ τ:St):Prop:=((τ.mem.map fun p=>ren L p.1).Nodup)/\wkT (look σ.mem) (look τ.mem) (ren L) (τ.mem.map fun p=>ren L p.1) σ.tmps τ.tmps/\wkM (look σ.mem) (look τ.mem) (ren L) (τ.mem.map fun p=>ren L p.1) τ.mem
theorem Wk.mk {σ τ:St} (L:List (Nat × Nat)) (h:WkL L σ τ):Wk σ τ:=⟨L,h⟩
variable {P T n} {ops os:List Oper} {o:Oper} {σ:St} {tr:Tr} {Q:St->Tr->Prop} {QA:Exit->St->Prop} {x y:Code} {i j:Nat} {e:Eff}
@[go_sem] theorem KAO_app {d:Option Nat}:KAO P T n ops os σ d tr Q e=AO P T n ops os (σ.app d e) (tr++[e.te]) Q:=(rfl)
@[go_sem] theorem KAC_app:KAC P T n y QA σ=AC P T n y QA σ:=(rfl)
@[go_sem] theorem KN_app:KN QA σ tr=QA .normal σ:=(rfl)
@[go_sem] theorem KD_app:KD ops QA σ tr=(okTr ops tr=true/\QA .normal σ):=(rfl)
@[go_sem] theorem AO_nil:AO P T n ops [] σ tr Q=Q σ tr:=(rfl)
@[go_sem] theorem AO_cons {d:Option Nat} {op:Op} {t:TypeId} {ps:String} {af:Array Edge}:AO P T n ops (⟨d,op,t,ps,af,none⟩ :: os) σ tr Q =
  ((match d with|some d=>d < n|none=>True)/\aStep P T (look σ.tmps) (look σ.mem) (fresh σ.mem) (KAO P T n ops os σ d tr Q) ⟨d,op,t,ps,af,none⟩):=(rfl)
def Guarded (P:Program) (T:TypeId->Option Ty) (n:Nat) (ops os:List Oper) (o:Oper) (σ:St) (tr:Tr) (Q:St->Tr->Prop) (want:Bool) (g:Option Nat):Prop :=
 match g with
 | some g =>
  match look σ.tmps g with
  | some (.sc (.bool b)) =>
   (b=want->aStep P T (look ((g,.sc (.bool want)) :: σ.tmps)) (look σ.mem) (fresh σ.mem) (KAO P T n ops os ⟨(g,.sc (.bool want)) :: σ.tmps,σ.mem⟩ o.dst tr Q) o) ∧
   (b=!want->AO P T n ops os (St.app ⟨(g,.sc (.bool (!want))) :: σ.tmps,σ.mem⟩ o.dst .skip) (tr++[Eff.te .skip]) Q)
  | some (.tup _)=>AO P T n ops os (σ.app o.dst .skip) (tr++[Eff.te .skip]) Q
  | _=>False
 | none=>False
@[go_sem] theorem AO_guard {d:Option Nat} {op:Op} {t:TypeId} {ps:String} {af:Array Edge} {want:Bool}:AO P T n ops (⟨d,op,t,ps,af,some (j,want)⟩ :: os) σ tr Q =
  ((match d with|some d=>d < n|none=>True)/\Guarded P T n ops os ⟨d,op,t,ps,af,some (j,want)⟩ σ tr Q want (gslot ops j)):=(rfl)
def GuardW (P:Program) (T:TypeId->Option Ty) (n:Nat) (ops os:List Oper) (o:Oper) (σ:St) (tr:Tr) (Q:St->Tr->Prop) (want:Bool) (g:Nat) (v:Option AV):Prop :=
 match v with
 | some (.sc (.bool b)) =>
  (b=want->aStep P T (look ((g,.sc (.bool want)) :: σ.tmps)) (look σ.mem) (fresh σ.mem) (KAO P T n ops os ⟨(g,.sc (.bool want)) :: σ.tmps,σ.mem⟩ o.dst tr Q) o) ∧
  (b=!want->AO P T n ops os (St.app ⟨(g,.sc (.bool (!want))) :: σ.tmps,σ.mem⟩ o.dst .skip) (tr++[Eff.te .skip]) Q)
 | some (.tup _)=>AO P T n ops os (σ.app o.dst .skip) (tr++[Eff.te .skip]) Q
 | _=>False
@[go_sem] theorem Guarded_some {want:Bool} {g:Nat}:Guarded P T n ops os o σ tr Q want (some g)=GuardW P T n ops os o σ tr Q want g (look σ.tmps g):=(rfl)
@[go_sem] theorem GuardW_no {want:Bool} {g:Nat} {vs:List AV}:GuardW P T n ops os o σ tr Q want g (some (.tup vs))=AO P T n ops os (σ.app o.dst .skip) (tr++[Eff.te .skip]) Q:=(rfl)
@[go_sem] theorem GuardW_tt {g:Nat}:GuardW P T n ops os o σ tr Q true g (some (.sc (.bool true)))=aStep P T (look ((g,.sc (.bool true)) :: σ.tmps)) (look σ.mem) (fresh σ.mem) (KAO P T n ops os ⟨(g,.sc (.bool true)) :: σ.tmps,σ.mem⟩ o.dst tr Q) o:=by simp [GuardW]
@[go_sem] theorem GuardW_ff {g:Nat}:GuardW P T n ops os o σ tr Q false g (some (.sc (.bool false)))=aStep P T (look ((g,.sc (.bool false)) :: σ.tmps)) (look σ.mem) (fresh σ.mem) (KAO P T n ops os ⟨(g,.sc (.bool false)) :: σ.tmps,σ.mem⟩ o.dst tr Q) o:=by simp [GuardW]
@[go_sem] theorem GuardW_tf {g:Nat}:GuardW P T n ops os o σ tr Q true g (some (.sc (.bool false)))=AO P T n ops os (St.app ⟨(g,.sc (.bool false)) :: σ.tmps,σ.mem⟩ o.dst .skip) (tr++[Eff.te .skip]) Q:=by simp [GuardW]
@[go_sem] theorem GuardW_ft {g:Nat}:GuardW P T n ops os o σ tr Q false g (some (.sc (.bool true)))=AO P T n ops os (St.app ⟨(g,.sc (.bool true)) :: σ.tmps,σ.mem⟩ o.dst .skip) (tr++[Eff.te .skip]) Q:=by simp [GuardW]
@[go_sem] theorem AC_skip:AC P T n .skip QA σ=QA .normal σ:=(rfl)
@[go_sem] theorem AC_text {id:Nat} {l:List Oper}:AC P T n (.region id l.toArray false) QA σ=AO P T n l l σ [] (KN QA):=(rfl)
@[go_sem] theorem AC_draw {id:Nat} {l:List Oper}:AC P T n (.region id l.toArray true) QA σ=AO P T n l l σ [] (KD l QA):=(rfl)
@[go_sem] theorem AC_seq:AC P T n (.seq x y) QA σ=AC P T n x (thenA (KAC P T n y QA) QA) σ:=(rfl)
def CondW (P:Program) (T:TypeId->Option Ty) (n:Nat) (x y:Code) (Q:Exit->St->Prop) (σ:St) (v:Option AV):Prop :=
 match v with
 | some (.sc (.bool b))=>(b=true->AC P T n x Q σ)/\(b=false->AC P T n y Q σ)
 | some (.nb p q)=>(p->AC P T n x Q σ)/\(q->AC P T n y Q σ)
 | _=>False
@[go_sem] theorem AC_cond {k:Operand}:AC P T n (.cond k x y) QA σ=CondW P T n x y QA σ (ev (look σ.tmps) k):=(rfl)
@[go_sem] theorem CondW_t:CondW P T n x y QA σ (some (.sc (.bool true)))=AC P T n x QA σ:=by simp [CondW]
@[go_sem] theorem CondW_f:CondW P T n x y QA σ (some (.sc (.bool false)))=AC P T n y QA σ:=by simp [CondW]
theorem CondW_dec {p:Prop} {dp:Decidable p} (h1:p->AC P T n x QA σ) (h2:¬ p->AC P T n y QA σ):CondW P T n x y QA σ (some (.sc (.bool (@decide p dp)))) :=
 ⟨fun h=>h1 (of_decide_eq_true h),fun h=>h2 (of_decide_eq_false h)⟩
theorem CondW_not {p:Prop} {dp:Decidable p} (h1:¬ p->AC P T n x QA σ) (h2:p->AC P T n y QA σ):CondW P T n x y QA σ (some (.sc (.bool (!@decide p dp)))):=by
 refine ⟨fun h=>h1 (of_decide_eq_false (by simpa using h)),fun h=>h2 (of_decide_eq_true (by simpa using h))⟩
theorem CondW_nb {p q:Prop} (h1:p->AC P T n x QA σ) (h2:q->AC P T n y QA σ):CondW P T n x y QA σ (some (.nb p q)):=⟨h1,h2⟩
theorem CondW_b {b:Bool} (h1:b=true->AC P T n x QA σ) (h2:b=false->AC P T n y QA σ):CondW P T n x y QA σ (some (.sc (.bool b))):=⟨h1,h2⟩
theorem GuardW_dec {p:Prop} {dp:Decidable p} {g:Nat} (h1:p->aStep P T (look ((g,.sc (.bool true)) :: σ.tmps)) (look σ.mem) (fresh σ.mem) (KAO P T n ops os ⟨(g,.sc (.bool true)) :: σ.tmps,σ.mem⟩ o.dst tr Q) o)
  (h2:¬ p->AO P T n ops os (St.app ⟨(g,.sc (.bool false)) :: σ.tmps,σ.mem⟩ o.dst .skip) (tr++[Eff.te .skip]) Q):GuardW P T n ops os o σ tr Q true g (some (.sc (.bool (@decide p dp)))) :=
 ⟨fun h=>h1 (of_decide_eq_true h),fun h=>h2 (of_decide_eq_false h)⟩
theorem GuardW_decf {p:Prop} {dp:Decidable p} {g:Nat} (h1:¬ p->aStep P T (look ((g,.sc (.bool false)) :: σ.tmps)) (look σ.mem) (fresh σ.mem) (KAO P T n ops os ⟨(g,.sc (.bool false)) :: σ.tmps,σ.mem⟩ o.dst tr Q) o)
  (h2:p->AO P T n ops os (St.app ⟨(g,.sc (.bool true)) :: σ.tmps,σ.mem⟩ o.dst .skip) (tr++[Eff.te .skip]) Q):GuardW P T n ops os o σ tr Q false g (some (.sc (.bool (@decide p dp)))) :=
 ⟨fun h=>h1 (of_decide_eq_false h),fun h=>h2 (of_decide_eq_true h)⟩
@[go_sem] theorem AC_block {id:Nat}:AC P T n (.block id x) QA σ=AC P T n x (inBlk id QA) σ:=(rfl)
@[go_sem] theorem AC_loop:AC P T n (.loop x) QA σ=LoopG P T n x QA σ:=(rfl)
@[go_sem] theorem AC_exit {id:Nat}:AC P T n (.exit id) QA σ=QA (.exit id) σ:=(rfl)
@[go_sem] theorem AC_ret:AC P T n .ret QA σ=QA .ret σ:=(rfl)
variable {nt:St->Prop}
@[go_sem] theorem thenA_n:thenA nt QA .normal σ=nt σ:=(rfl)
@[go_sem] theorem thenA_e:thenA nt QA (.exit i) σ=QA (.exit i) σ:=(rfl)
@[go_sem] theorem thenA_r:thenA nt QA .ret σ=QA .ret σ:=(rfl)
@[go_sem] theorem inBlk_n:inBlk i QA .normal σ=QA .normal σ:=(rfl)
@[go_sem] theorem inBlk_e:inBlk i QA (.exit j) σ=if j=i then QA .normal σ else QA (.exit j) σ:=(rfl)
@[go_sem] theorem inBlk_r:inBlk i QA .ret σ=QA .ret σ:=(rfl)
@[go_sem] theorem KR_n {rs:List ResultVar} {own:Bool} {res:List Dat}:KR T rs own res .normal σ=RetOK T σ own rs res:=(rfl)
@[go_sem] theorem KR_r {rs:List ResultVar} {own:Bool} {res:List Dat}:KR T rs own res .ret σ=RetOK T σ own rs res:=(rfl)
@[go_sem] theorem KRT_n {rs:List ResultVar} {res:List Dat}:KRT T rs res .normal σ=RetT T rs res σ:=(rfl)
@[go_sem] theorem KRT_r {rs:List ResultVar} {res:List Dat}:KRT T rs res .ret σ=RetT T rs res σ:=(rfl)
@[go_sem] theorem fresh_nil:fresh []=0:=(rfl)
@[go_sem] theorem fresh_cons {k:Nat} {B:Blk} {M:Mm}:fresh ((k,B) :: M)=if k+1<=fresh M then fresh M else k+1:=by
 have e:fresh ((k,B) :: M)=max (k+1) (fresh M):=(rfl)
 rw [e]
 by_cases h:k+1<=fresh M
 ·rw [if_pos h,Nat.max_eq_right h]
 ·rw [if_neg h,Nat.max_eq_left (by omega)]
theorem NilW.non {K:Eff->Prop} {p:Prop} {rd:List Nat} {neg:Bool} (h:¬ p) (hk:K ⟨.sc (.bool neg),[],rd⟩):NilW K p rd neg:=.inl ⟨h,hk⟩
theorem NilW.eq {K:Eff->Prop} {p:Prop} {rd:List Nat} (hk:K ⟨.nb p True,[],rd⟩):NilW K p rd false:=.inr hk
theorem CallW.mk {P:Program} {lm:Nat->Option Blk} {nx:Nat} {K:Eff->Prop} {f:FuncId} {vs:List AV} {args:List Dat} {own:Bool} {res:List Dat} (h:Fn P f args own res) (hk:All2 (fun v d=>IsV (lmF lm (vs.flatMap AV.rows) (apartR own res)) d v) vs args/\K (callEff lm nx (vs.flatMap AV.rows) own res)):CallW P lm nx K f vs:=.inl ⟨args,own,res,h,hk.1,hk.2⟩
theorem CallW.mx {P:Program} {lm:Nat->Option Blk} {nx:Nat} {K:Eff->Prop} {f:FuncId} {vs:List AV} {args:List Dat} {own:Bool} {d:Dat} (h:Fn P f args own [d]) (hk:(own && d.1.plain || d.1.flat)=true/\All2 (fun v d=>IsV (lmX lm) d v) vs args/\K (xEff nx (vs.flatMap AV.rows) own d)):CallW P lm nx K f vs:=.inr (.inl ⟨args,own,d,h,hk.1,hk.2.1,hk.2.2⟩)
theorem CallW.m {P:Program} {lm:Nat->Option Blk} {nx:Nat} {K:Eff->Prop} {f:FuncId} {v:AV} {k r:Int} {t:Ty} {x x':t.den} (h:FnM P f t x x' k r) (hk:MkV lm t x v/\K ⟨.sc (.int .i64 r),mcel t x' (cellsOf v),v.rows⟩):CallW P lm nx K f [v,.sc (.int .i64 k)]:=.inr (.inr (.inl ⟨t,x,x',k,r,v,h,rfl,hk.1,hk.2⟩))
theorem CallW.s {P:Program} {lm:Nat->Option Blk} {nx:Nat} {K:Eff->Prop} {f:FuncId} {vs:List AV} {args:List Dat} {i:Nat} (h:FnS P f args i) (hk:All2 (fun v d=>IsV (lmX lm) d v) vs args/\∃ v,vs[i]? = some v/\K ⟨v,[],vs.flatMap AV.rows⟩):CallW P lm nx K f vs:=.inr (.inr (.inr (.inl ⟨args,i,hk.2.choose,h,hk.1,hk.2.choose_spec.1,hk.2.choose_spec.2⟩)))
theorem CallW.t {P:Program} {lm:Nat->Option Blk} {nx:Nat} {K:Eff->Prop} {f:FuncId} {vs:List AV} {args:List Dat} {d:Dat} {ds:List Dat} (h:FnT P f args (d :: ds)) (hk:(d.1.plain && ds.all fun d=>d.1.flat)=true/\All2 (fun v d=>IsV (lmX lm) d v) vs args/\K ⟨.tup (oav nx d :: ds.map fun d=>av d.1 d.2),mineM (ocel nx d.1 d.2).2,vs.flatMap AV.rows⟩):CallW P lm nx K f vs:=.inr (.inr (.inr (.inr (.inl ⟨args,d,ds,h,hk.1,hk.2.1,hk.2.2⟩))))
theorem CallW.g {P:Program} {lm:Nat->Option Blk} {nx:Nat} {K:Eff->Prop} {f:FuncId} {vs:List AV} {args:List Dat} {e:TypeId} {t:Ty} {l:List t.den} (h:FnG P f args e t l) (hk:All2 (fun v d=>IsV (lmX lm) d v) vs args/\K ⟨.row nx 0,[(nx,.row e t 0 true l)],vs.flatMap AV.rows⟩):CallW P lm nx K f vs:=.inr (.inr (.inr (.inr (.inr (.inl ⟨args,e,t,l,h,hk.1,hk.2⟩)))))
theorem CallW.r {P:Program} {lm:Nat->Option Blk} {nx:Nat} {K:Eff->Prop} {f:FuncId} {vs:List AV} {xs:List Cst} {e:TypeId} {t:Ty} {l l':List t.den} {ret:Bool} {k ver:Nat} {o:Bool} (h:FnR P f xs e t l l' ret) (hk:vs=.row k ver :: xs.map (fun c=>.sc c.val)/\lm k=some (.row e t ver o l)/\K ⟨if ret then .row k (ver+1) else .tup [],[(k,.row e t (if ret then ver+1 else ver) true l')],[k]⟩):CallW P lm nx K f vs:=.inr (.inr (.inr (.inr (.inr (.inr (.inl ⟨xs,e,t,l,l',ret,k,ver,o,h,hk.1,hk.2.1,hk.2.2⟩))))))
theorem CallW.c {P:Program} {lm:Nat->Option Blk} {nx:Nat} {K:Eff->Prop} {f:FuncId} {vs:List AV} {t:Ty} {l:List t.den} {zs zs':List Value} {args:List Dat} {own:Bool} {d:Dat} {k:Nat} (mn:Bool) (h:FnC P f t l zs zs' args own d) (hk:CallCW lm nx K t l zs zs' args own d mn k vs):CallW P lm nx K f (.ptr k 0 :: vs):=.inr (.inr (.inr (.inr (.inr (.inr (.inr (.inl ⟨t,l,zs,zs',args,own,d,mn,k,vs,h,rfl,hk⟩)))))))
theorem CallW.nb {P:Program} {lm:Nat->Option Blk} {nx:Nat} {K:Eff->Prop} {f:FuncId} {v:AV} {vs:List AV} {t:Ty} {l:List t.den} {zs:List Value} {args:List Dat} (h:FnN P f t l zs args) (hk:fxd v=some ⟨t,l⟩/\All2 (fun v d=>IsV (lmF lm (vs.flatMap AV.rows) false) d v) vs args/\K ⟨.ptr nx 0,(nx,.box (v :: zs.map fun z=>.sc z)) :: frzU lm (vs.flatMap AV.rows),vs.flatMap AV.rows⟩):CallW P lm nx K f (v :: vs):=.inr (.inr (.inr (.inr (.inr (.inr (.inr (.inr (.inl ⟨t,l,zs,args,v,vs,h,rfl,hk.1,hk.2.1,hk.2.2⟩))))))))
theorem CallW.q {P:Program} {lm:Nat->Option Blk} {nx:Nat} {K:Eff->Prop} {f:FuncId} {vs:List AV} {args:List Dat} {d:Dat} (h:Fn P f args false [d]) (hk:All2 (fun v d=>IsV (lmQ lm) d v) vs args/\K ⟨av d.1 d.2,[],vs.flatMap AV.rows⟩):CallW P lm nx K f vs:=.inr (.inr (.inr (.inr (.inr (.inr (.inr (.inr (.inr ⟨args,d,h,hk.1,hk.2⟩))))))))
theorem CallK.mk {P:Program} {lm:Nat->Option Blk} {K:Eff->Prop} {f:FuncId} {vs:List AV} {args:List Dat} {d:Dat} (h:Fn P f args false [d]) (hk:d.1.flat=true/\All2 (fun v d=>IsC lm d v) vs args/\K ⟨av d.1 d.2,[],vs.flatMap (rdK lm)⟩):CallK P lm K f vs:=⟨args,d,h,hk⟩
theorem CallD.mk {P:Program} {lm:Nat->Option Blk} {K:Eff->Prop} {f:FuncId} {A:Ty} {x:A.den} {vs:List AV} {d0:Dat} {d:Dat} (h:Fn P f (d0 :: capD A x) false [d]) (hk:d.1.flat=true/\All2 (fun v d=>IsV lm d v) vs [d0]/\K ⟨av d.1 d.2,[],vs.flatMap AV.rows⟩):CallD P lm K f A x vs:=⟨[d0],d,h,hk⟩
@[go_sem] theorem IsC_clb {lm:Nat->Option Blk} {d:Dat} {f:FuncId} {ks:List Nat}:IsC lm d (.clb f ks)=IsClo lm d.1 d.2 f ks:=(rfl)
@[go_sem] theorem IsC_sl {lm:Nat->Option Blk} {d:Dat} {t:Ty} {l:List t.den}:IsC lm d (.sl t l)=IsV lm d (.sl t l):=(rfl)
@[go_sem] theorem IsC_row {lm:Nat->Option Blk} {d:Dat} {k ver:Nat}:IsC lm d (.row k ver)=IsV lm d (.row k ver):=(rfl)
@[go_sem] theorem IsC_sc {lm:Nat->Option Blk} {d:Dat} {v:Value}:IsC lm d (.sc v)=IsV lm d (.sc v):=(rfl)
@[go_sem] theorem IsC_agg {lm:Nat->Option Blk} {d:Dat} {cs:List AV}:IsC lm d (.agg cs)=IsV lm d (.agg cs):=(rfl)
@[go_sem] theorem IsC_ref {lm:Nat->Option Blk} {d:Dat} {t:Ty} {x:t.den} {o:Nat}:IsC lm d (.ref t x o)=IsV lm d (.ref t x o):=(rfl)
@[go_sem] theorem SlcW_sl {lm:Nat->Option Blk} {K:Eff->Prop} {s t:Ty} {l:List s.den} {m:List t.den} {a b:Int}:SlcW lm K s l a b (.sl t m)=K ⟨.sl s ((l.take b.toNat).drop a.toNat),frzU lm (AV.sl t m).rows,(AV.sl t m).rows⟩:=(rfl)
theorem SlcW.keep {lm:Nat->Option Blk} {K:Eff->Prop} {s:Ty} {l:List s.den} {a b:Int} {k ver:Nat} (h:K ⟨.sl s ((l.take b.toNat).drop a.toNat),frzU lm [k],[k]⟩):SlcW lm K s l a b (.row k ver):=.inl h
theorem SlcW.cut {lm:Nat->Option Blk} {K:Eff->Prop} {s:Ty} {l:List s.den} {a b:Int} {k ver:Nat} {e:TypeId} {o:Bool} (h:a=0/\lm k=some (.row e s ver o l)/\K ⟨.row k (ver+1),[(k,.row e s (ver+1) s.flat (l.take b.toNat))],[k]⟩):SlcW lm K s l a b (.row k ver):=.inr ⟨h.1,e,o,h.2.1,h.2.2⟩
theorem QuoW.pos {K:Eff->Prop} {a b:Int} (h0:0<=a) (h1:0 < b) (h:K (.val (.sc (.int .i64 (a / b))))):QuoW K a b:=⟨_,.inl ⟨h0,h1,rfl⟩,h⟩
theorem RemW.pos {K:Eff->Prop} {a b:Int} (h0:0<=a) (h1:0 < b) (h:K (.val (.sc (.int .i64 (a % b))))):RemW K a b:=⟨_,.inl ⟨h0,h1,rfl⟩,h⟩
theorem FloW.mk {K:Eff->Prop} {op:BinOp} {x y:Nat} (r:Nat) (h:floatBits op .f64 x y=some r) (hk:K (.val (.sc (.float .f64 r)))):FloW K op x y:=⟨r,h,hk⟩
theorem FtiW.mk {K:Eff->Prop} {x:Nat} (n:Int) (h:floatToIntVal .f64 x .i64=some n) (hI:I64 n) (hk:K (.val (.sc (.int .i64 n)))):FtiW K x:=⟨n,h,hI,hk⟩
theorem fn_enter {P:Program} {T:TypeId->Option Ty} (hT:TabOK P T) (hmix:P.follows .mixedOrders=true) {f:FuncId} {fn:Func} {code:Code} {args:List Dat} {own:Bool} {res:List Dat} (hf:P.funcs[f]? = some fn) (hname:(fn.name == "runtime.NumGoroutine")=false) (hb:fn.body=some code) (n:Nat) (hn:fn.ntmps=n) (rs:List ResultVar) (hr:fn.results=rs.toArray) (hna:args.length<=n)
  (h:(∀ d ∈ args,Wf d.1 d.2)->AC P T n code (KR T rs own res) ⟨argTm 0 args,[]⟩):Fn P f args own res:=by
 subst hn
 refine fn_intro hT hmix hf hname hb hna fun hwf=>?_
 have:=h hwf
 have e:(KR T rs own res)=fun e σ=>match e with
   | .normal|.ret=>RetOK T σ own fn.results.toList res
   | _=>False:=by
  have hrl:fn.results.toList=rs:=by rw [hr]
  rw [hrl]; funext e σ; cases e<;>rfl
 rw [e] at this
 exact this
end
theorem look_hit {α:Type} (k:Nat) (v:α) (l:List (Nat × α)):look ((k,v) :: l) k=some v:=look_self k v l
theorem look_miss {α:Type} {k d:Nat} (v:α) (l:List (Nat × α)) (h:(d == k)=false):look ((k,v) :: l) d=look l d:=look_ne v l (by simpa using h)
attribute [go_sem] reduceIte reduceCtorEq Nat.reduceEqDiff Nat.reduceLT Nat.reduceLeDiff Nat.reduceAdd Nat.reduceBEq Nat.reduceMul Int.reduceToNat Int.reduceLE Int.reduceLT Int.reduceEq Int.reduceNeg
attribute [go_sem] IsClo exV aNilChk evPtrs aMakeClo aIndexArr aBuildArr aMakeMap aCall2 hasClb CapOK capD rdK boxRows Ty.plain Ex.zv
attribute [go_sem] nrow lmQ aStoreMine fxd cEff CallCW AV.fx.injEq RetT lmX Blk.toOd Blk.toMine mineM xEff IsM mcel mrow MkV Option.map_some Option.map_none aStep aMove aPick aBox aAlloc aLoad aStoreBox aStoreRow aFieldAddr aField aBin0 aBinW aBinX isAM aNil Cst.val aUn aConv aExtract aBuild fillA aLen elemPtr aIndexAddr Blk.fz frzU ocel oav apartR callEff evs lmF aCall aBuildSlice aAppend aMakeSlice evo aSlice aMin aMax
 ev kst look_hit look_miss look_nil getC cel av cellsOf AV.ok AV.rows AV.data Blk.data gslot St.app Eff.val Eff.te Eff.skip Ty.isAgg Ty.size Ty.flat Ty.zero Ty.zc zcl argTm RetOK aRes IsV Is IsS OwnA OwnC OwnL ownV cellRows All2 LeC LeA LeV wkT wkB wkM ren isSl idx WkL rdC rdI rdB rdT rdU rdX rdV rdL rdS lget_same decide_true decide_false Int.toNat_natCast
def ni (l:List Int) (i:Nat):Int:=nth (t:=.int) l i
@[go_sem] theorem nth_int (l:List Int) (i:Nat):@nth .int l i=ni l i:=(rfl)
theorem ni_lt {l:List Int} {i:Nat} (h:i < l.length):ni l i=l[i]:=nth_lt (t:=.int) h
theorem ni_ge {l:List Int} {i:Nat} (h:l.length<=i):ni l i=0:=by rw [ni,nth,List.getD_eq_getElem?_getD,List.getElem?_eq_none h]; rfl
@[go_sem] theorem ex_bx {α β:Type} (a:α) (b:β):(∃ x cs,a=x/\b=cs)=True:=by simp
attribute [go_sem] exists_eq_left exists_eq_left' exists_eq' exists_eq and_imp beq_self_eq_true Int.toNat_zero List.length_append List.nodup_nil List.nodup_cons List.not_mem_nil not_false_eq_true List.mem_cons Option.getD_none Option.getD_some implies_true false_implies or_false or_true false_or true_or forall_eq List.cons.injEq AV.sc.injEq AV.sl.injEq Blk.bx.injEq Value.int.injEq Value.bool.injEq Sigma.mk.injEq heq_eq_eq true_and and_true and_self false_and and_false if_true if_false List.length_cons List.length_nil List.take_succ_cons List.take_zero List.drop_succ_cons List.drop_zero List.cons_append List.nil_append List.getD_cons_zero List.getD_cons_succ List.map_cons List.map_nil List.all_cons List.all_nil List.flatMap_cons List.flatMap_nil List.toList_toArray forall_const Bool.not_true Bool.not_false Bool.false_eq_true Bool.and_true Bool.true_and Bool.or_false Bool.false_or Bool.or_true Bool.true_or Bool.and_false Bool.false_and List.length_replicate List.length_set ne_eq List.headD_cons Option.bind_some Option.some.injEq Option.isSome_some List.getElem?_cons_zero List.getElem?_cons_succ List.getElem?_toArray Nat.zero_add Option.none_or Option.some_or
end Go.Proofs.YtaflkgjckmfkoaaGreat.DW

namespace Go.Proofs.YtaflkgjckmfkoaaGreat
open Go.RowKit
abbrev DIntS:=List Int
abbrev RIntS:Rp DIntS:=Rp.slice Rp.int (by decide)
abbrev DBigInt:=Bool × DIntS
abbrev RBigInt:Rp DBigInt:=Rp.prod Rp.bool RIntS
abbrev DRat:=DBigInt × DIntS
abbrev RRat:Rp DRat:=Rp.prod RBigInt RIntS
abbrev DPoint:=DRat × DRat
abbrev RPoint:Rp DPoint:=Rp.prod RRat RRat
abbrev DStep:=Int × DPoint
abbrev DPlacement:=Int × DPoint
theorem list1 {α:Type} {l:List α} (h:l.length=1):∃ c0,l=[c0]:=by
 match l,h with
 | [c0],_=>exact ⟨c0,rfl⟩
theorem list6 {α:Type} {l:List α} (h:l.length=6):∃ c0 c1 c2 c3 c4 c5,l=[c0,c1,c2,c3,c4,c5]:=by
 match l,h with
 | [c0,c1,c2,c3,c4,c5],_=>exact ⟨c0,c1,c2,c3,c4,c5,rfl⟩
def tBigInt (x:DBigInt):Nat:=x.2.length
def tRat (x:DRat):Nat:=tBigInt x.1+x.2.length
def tPoint (x:DPoint):Nat:=tRat x.1+tRat x.2
def tStep (x:DStep):Nat:=tPoint x.2
def mkIntS (l:DIntS) (k:Int):DIntS:=(List.range l.length).map fun i=>k+(i:Nat)
def cnBigInt (x:DBigInt):Nat:=x.2.length
def mkBigInt (x:DBigInt) (k:Int):DBigInt:=(x.1,mkIntS x.2 k)
def cnRat (x:DRat):Nat:=cnBigInt x.1+x.2.length
def mkRat (x:DRat) (k:Int):DRat:=(mkBigInt x.1 k,mkIntS x.2 (k+cnBigInt x.1))
def mkPoint (x:DPoint) (k:Int):DPoint:=(mkRat x.1 k,mkRat x.2 (k+cnRat x.1))
def mkPlacement (x:DPlacement) (k:Int):DPlacement:=(x.1,mkPoint x.2 k)
end Go.Proofs.YtaflkgjckmfkoaaGreat

namespace Go.Proofs.YtaflkgjckmfkoaaGreat.DW
open Go.RowKit
abbrev tInts:Ty:=.slice .int
abbrev tBig:Ty:=.prod .bool tInts
abbrev tRat:Ty:=.prod tBig tInts
abbrev tPoint:Ty:=.prod tRat tRat
abbrev tStep:Ty:=.prod .int tPoint
abbrev tVec:Ty:=.prod .int .int
abbrev tTour:Ty:=.prod (.slice tVec) (.prod tStep (.slice tStep))
abbrev tBSS:Ty:=.slice (.slice .bool)
abbrev tCur:Ty:=.prod (.slice .u8) (.prod .int .int)
def tyOf:TypeId->Option Ty
 | 3=>some .int
 | 4=>some .bool
 | 9=>some .str
 | 24=>some tInts
 | 5=>some .u8
 | 22=>some (.slice .u8)
 | 88=>some tCur
 | 31=>some tBig
 | 33=>some tRat
 | 28=>some (.slice tRat)
 | 45=>some tPoint
 | 80=>some tStep
 | 48=>some (.slice tStep)
 | 23=>some (.slice tPoint)
 | 47=>some tStep
 | 78=>some tVec
 | 43=>some (.slice tVec)
 | 50=>some tTour
 | 41=>some (.slice tTour)
 | 54=>some (.slice .bool)
 | 52=>some (tBSS)
 | _=>none
theorem mixes:Tryz.prog.follows .mixedOrders=true:=by kernel_rfl
theorem tabOK:TabOK Tryz.prog tyOf:=by
 intro ty t h
 unfold tyOf at h
 split at h
 all_goals first|cases h; done|(injection h with h; subst h; exact tyOK (by kernel_rfl) (by kernel_rfl))
attribute [go_sem] tyOf
theorem tame:¬ wild tyOf:=fun h=>h 4 rfl
@[go_sem] theorem aBin_tame {P:Program} {lt:Nat->Option AV} {K:Eff->Prop} {op:BinOp} {ty:TypeId} {x y:Operand}:aBin P tyOf lt K op ty x y=aBin0 P lt K op ty x y:=if_neg tame
attribute [go_sem] Tryz.underlying3
attribute [go_sem] Tryz.underlying4
attribute [go_sem] Tryz.underlying9
attribute [go_sem] Tryz.underlying5
attribute [go_sem] Tryz.underlying24
attribute [go_sem] Tryz.underlying22
attribute [go_sem] Tryz.underlying88
attribute [go_sem] Tryz.underlying152
attribute [go_sem] Tryz.underlying31
attribute [go_sem] Tryz.underlying33
attribute [go_sem] Tryz.underlying28
attribute [go_sem] Tryz.underlying45
attribute [go_sem] Tryz.underlying23
attribute [go_sem] Tryz.underlying80
attribute [go_sem] Tryz.underlying48
attribute [go_sem] Tryz.underlying47
attribute [go_sem] Tryz.underlying78
attribute [go_sem] Tryz.underlying43
attribute [go_sem] Tryz.underlying50
attribute [go_sem] Tryz.underlying41
attribute [go_sem] Tryz.underlying54
attribute [go_sem] Tryz.underlying52
@[go_sem] theorem bts_boolS:bts Tryz.prog 54=some 24:=by kernel_rfl
@[go_sem] theorem bts_bool:bts Tryz.prog 4=some 1:=by kernel_rfl
@[go_sem] theorem bts_Point:bts Tryz.prog 45=some 112:=by kernel_rfl
@[go_sem] theorem bts_Step:bts Tryz.prog 80=some 120:=by kernel_rfl
@[go_sem] theorem bts_Vec:bts Tryz.prog 78=some 16:=by kernel_rfl
@[go_sem] theorem bts_int:bts Tryz.prog 3=some 8:=by kernel_rfl
@[go_sem] theorem bts_Rat:bts Tryz.prog 33=some 56:=by kernel_rfl
end Go.Proofs.YtaflkgjckmfkoaaGreat.DW

namespace Go.Proofs.YtaflkgjckmfkoaaGreat.DW
open Go.RowKit
abbrev Arg (w:World) (v:Value) (d:Dat):Prop:=∃ fp,DRep w v d fp
theorem Arg.int {w:World} {n:Int} (h:I64 n):Arg w (.int .i64 n) ⟨.int,n⟩:=⟨[],[_],.inr ⟨rfl,rfl⟩,rfl,rfl,h⟩
theorem Arg.bool {w:World} {b:Bool}:Arg w (.bool b) ⟨.bool,b⟩:=⟨[],[_],.inr ⟨rfl,rfl⟩,rfl,rfl⟩
theorem Arg.str {w:World} {s:ByteArray} (h:s.size<=maxLen):Arg w (.string s) ⟨.str,s⟩:=⟨[],[_],.inr ⟨rfl,rfl⟩,rfl,rfl,h⟩
theorem Arg.sl {w:World} {v:Value} {a:Ty} {l:List a.den} (h:Has (Rp.slice a.rp a.pos) w [v] l):Arg w v ⟨.slice a,l⟩:=by
 obtain ⟨fp,h⟩:=h
 exact ⟨fp,[v],.inr ⟨rfl,rfl⟩,h⟩
theorem Arg.agg {w:World} {cs:List Value} {t:Ty} {x:t.den} (ht:t.isAgg=true) (h:Has t.rp w cs x):Arg w (.agg cs.toArray) ⟨t,x⟩:=by
 obtain ⟨fp,h⟩:=h
 exact ⟨fp,cs,.inl ⟨ht,rfl⟩,h⟩
section
variable {P:Program} {f:FuncId} {args:List Dat} {own:Bool} {t:Ty} {x:t.den} {w:World} {vs:List Value}
theorem Fn.go (h:Fn P f args own [⟨t,x⟩]) (ha:All2 (Arg w) vs args):Calls P f vs.toArray w fun e w'=>Below w.heap.size w w'/\∃ v,e=.returned v/\∃ fp,DRep w' v ⟨t,x⟩ fp/\(own=true->OwnFp w.heap.size w' fp):=by
 refine (h.2 w vs (fun _=>True) (ha.mono fun v d _ ⟨fp,h⟩=>⟨fp,h,fun _ _=>trivial⟩)).mono fun e w' ⟨hb,v,he,hr⟩=>⟨hb,v,he,?_⟩
 obtain ⟨fp,h1,h2,_⟩:=hr
 exact ⟨fp,h1,h2⟩
theorem Fn.bool {b:Bool} (h:Fn P f args own [⟨.bool,b⟩]) (ha:All2 (Arg w) vs args):Calls P f vs.toArray w (Post (fun v w'=>v=.bool b/\Below w.heap.size w w')):=by
 refine (h.go ha).mono fun e w' ⟨hb,v,he,fp,⟨cs,hp,hr⟩,_⟩=>⟨v,he,?_,hb⟩
 rcases hp with ⟨h,_⟩|⟨_,rfl⟩
 ·cases h
 ·exact List.cons.inj hr.1 |>.1
theorem Fn.int {n:Int} (h:Fn P f args own [⟨.int,n⟩]) (ha:All2 (Arg w) vs args):Calls P f vs.toArray w (Post (fun v w'=>v=.int .i64 n/\Below w.heap.size w w')):=by
 refine (h.go ha).mono fun e w' ⟨hb,v,he,fp,⟨cs,hp,hr⟩,_⟩=>⟨v,he,?_,hb⟩
 rcases hp with ⟨h,_⟩|⟨_,rfl⟩
 ·cases h
 ·exact List.cons.inj hr.1 |>.1
structure HasR {α:Type} (A:Rp α) (w:World) (cs:List Value) (a:α):Prop where
 has:Has A w cs a
end
end Go.Proofs.YtaflkgjckmfkoaaGreat.DW

namespace Go.Proofs.YtaflkgjckmfkoaaGreat
open Go.RowKit
section
variable {H:Type} {enc:TypeId × Value->H} {w:World}
theorem Opens.u8 {P:Program} {t:TypeId} (ht:P.underlying t=some (.int .u8)):Opens enc P w t DW.RpU8:=fun fuel cs x h=>by
 obtain ⟨n,rfl,_,wn⟩:=DataW.trod_int ht h
 have:0<=n/\n<=255:=by simpa [Lit.wf,IntKind.min,IntKind.max,IntKind.signed,IntKind.bits] using wn
 exact ⟨n,[],rfl,rfl,this.1,this.2⟩
theorem oU8S:Opens enc Tryz.prog w 22 (Rp.slice DW.RpU8 Nat.one_pos):=Opens.slice Tryz.underlying22 (by kernel_rfl) (Opens.u8 Tryz.underlying5)
end
end Go.Proofs.YtaflkgjckmfkoaaGreat

namespace Go.Proofs.YtaflkgjckmfkoaaGreat.DW
open Go.RowKit
section
variable {P:Program} {T:TypeId->Option Ty}
def RetG (T:TypeId->Option Ty) (rs:List ResultVar) (e:TypeId) (t:Ty) (l:List t.den) (σ:St):Prop :=
 match rs with
 | [r]=>∃ k ver,aRes T σ r=some (.row k ver)/\look σ.mem k=some (.row e t ver true l)
 | _=>False
theorem retG_ok (hT:TabOK P T) {fn:Func} {c:Cx} {σ:St} {Γ:Asg} {a:Act} {w:World} {e:TypeId} {t:Ty} {l:List t.den} (hs:Sim c σ Γ a w) (h:RetG T fn.results.toList e t l σ) :
  ∃ v,(results fn a.tmps).run P w=.ok v w/\∃ fps:List (List Nat),v.oneCell'=true/\GrowF t.rp c.base w e v l fps/\OwnFp c.base w fps.flatten/\∀ b ∈ fps.flatten,v.ownBlock ≠ some b:=by
 unfold RetG at h
 split at h
 ·rename_i r hr
  obtain ⟨k,ver,h1,h2⟩:=h
  obtain ⟨u,g1,g2⟩:=aRes_run (P:=P) hT hs h1 rfl
  obtain ⟨q1,B,hB,q2⟩:=g2
  rw [h2] at hB; injection hB with hB; subst hB
  obtain ⟨fps,hg,hf,hgd,hon⟩:=hs.mm k _ h2
  have hu:u=Γ.hd k:=q2.2 rfl
  have hfr:fn.results=#[r]:=toList1 hr
  refine ⟨u,?_,fps,q1,hu ▸ hg,hf ▸ hon rfl,fun b hb he=>?_⟩
  ·rw [results_eq,hfr,List.mapM_toArray,map_eq_pure_bind,Sem.run_bind,Sem.run_bind]
   simp only [List.mapM_cons,List.mapM_nil,Sem.run_bind,g1,Result.andThen_ok,Sem.run_pure]
   simp
  ·exact (hgd b (hf ▸ hb)).2 ⟨k,_,h2,by show (Γ.hd k).ownBlock=some b; rw [<-hu]; exact he⟩
 ·exact h.elim
def KRG (T:TypeId->Option Ty) (rs:List ResultVar) (e:TypeId) (t:Ty) (l:List t.den) (ex:Exit) (σ:St):Prop :=
 match ex with
 | .normal|.ret=>RetG T rs e t l σ
 | _=>False
@[go_sem] theorem KRG_n {rs:List ResultVar} {e:TypeId} {t:Ty} {l:List t.den} {σ:St}:KRG T rs e t l .normal σ=RetG T rs e t l σ:=(rfl)
@[go_sem] theorem KRG_r {rs:List ResultVar} {e:TypeId} {t:Ty} {l:List t.den} {σ:St}:KRG T rs e t l .ret σ=RetG T rs e t l σ:=(rfl)
attribute [go_sem] RetG
theorem fnG_enter (hT:TabOK P T) (hmix:P.follows .mixedOrders=true) {f:FuncId} {fn:Func} {code:Code} {args:List Dat} {e:TypeId} {t:Ty} {l:List t.den} (hf:P.funcs[f]? = some fn) (hname:(fn.name == "runtime.NumGoroutine")=false) (hb:fn.body=some code) (n:Nat) (hn:fn.ntmps=n) (rs:List ResultVar) (hr:fn.results=rs.toArray) (hna:args.length<=n)
  (h:(∀ d ∈ args,Wf d.1 d.2)->AC P T n code (KRG T rs e t l) ⟨argTm 0 args,[]⟩):FnG P f args e t l:=by
 subst hn
 have h':(∀ d ∈ args,Wf d.1 d.2)->AC P T fn.ntmps code (fun e' σ=>match e' with
   | .normal|.ret=>RetG T fn.results.toList e t l σ
   | _=>False) ⟨argTm 0 args,[]⟩:=fun hwf=>by
  have:=h hwf
  have e:(KRG T rs e t l)=fun e' σ=>match e' with
    | .normal|.ret=>RetG T fn.results.toList e t l σ
    | _=>False:=by
   have hrl:fn.results.toList=rs:=by rw [hr]
   rw [hrl]; funext e' σ; cases e'<;>rfl
  rw [e] at this
  exact this
 have:=fn_gen (VQ:=fun b S w v=>∃ fps:List (List Nat),v.oneCell'=true/\GrowF t.rp b w e v l fps/\OwnFp b w fps.flatten/\∀ b ∈ fps.flatten,v.ownBlock ≠ some b) hT hmix hf hname hb hna (fun c σ Γ a w hs hq=>retG_ok (P:=P) hT hs hq) h'
 refine ⟨this.1,fun w vs S ha=>(this.2 w vs S ha).mono ?_⟩
 rintro e w' ⟨hb,v,he,fps,q1,q2,q3,q4⟩
 exact ⟨hb,v,fps,he,q1,q2,q3,q4⟩
def RetP (T:TypeId->Option Ty) (rs:List ResultVar) (t:Ty) (x:t.den) (σ:St):Prop :=
 match rs with
 | [r]=>match aRes T σ r with
  | some (.ptr k 0)=>match look σ.mem k with
   | some (.box cs)=>Is (look σ.mem) t x cs
   | _=>False
  | _=>False
 | _=>False
def KRP (T:TypeId->Option Ty) (rs:List ResultVar) (t:Ty) (x:t.den) (ex:Exit) (σ:St):Prop :=
 match ex with
 | .normal|.ret=>RetP T rs t x σ
 | _=>False
@[go_sem] theorem KRP_n {rs:List ResultVar} {t:Ty} {x:t.den} {σ:St}:KRP T rs t x .normal σ=RetP T rs t x σ:=(rfl)
@[go_sem] theorem KRP_r {rs:List ResultVar} {t:Ty} {x:t.den} {σ:St}:KRP T rs t x .ret σ=RetP T rs t x σ:=(rfl)
attribute [go_sem] RetP
theorem args_wf {w:World} {S:Nat->Prop}:∀ {vs:List Value} {ds:List Dat},All2 (fun v d=>∃ fp,DRep w v d fp/\∀ b ∈ fp,S b) vs ds->∀ d ∈ ds,Wf d.1 d.2
 | _,[],_,d,hd=>by cases hd
 | v :: vs,d :: ds,⟨⟨fp,⟨cs,_,hr⟩,_⟩,h2⟩,d',hd'=>by
  rcases List.mem_cons.1 hd' with rfl|hd'
  ·exact rep_wf hr
  ·exact args_wf h2 d' hd'
 | [],_ :: _,h,_,_=>h.elim
theorem args_at {w:World} {S:Nat->Prop} {e:Dat}:∀ {vs:List Value} {ds:List Dat} {d:Nat},All2 (fun v d=>∃ fp,DRep w v d fp/\∀ b ∈ fp,S b) vs ds->ds[d]? = some e->∃ u,vs[d]? = some u/\∃ fp,DRep w u e fp/\∀ b ∈ fp,S b
 | _,[],d,_,h=>by simp at h
 | [],_ :: _,_,hA,_=>hA.elim
 | v :: vs,d0 :: ds,0,hA,h=>by simp at h; subst h; exact ⟨v,rfl,hA.1⟩
 | v :: vs,d0 :: ds,d+1,hA,h=>by simpa using args_at hA.2 (by simpa using h)
def KRC (T:TypeId->Option Ty) (rs:List ResultVar) (own:Bool) (d:Dat) (B:Blk) (ex:Exit) (σ:St):Prop :=
 match ex with
 | .normal|.ret=>RetOK T σ own rs [d]/\look σ.mem 0=some B
 | _=>False
@[go_sem] theorem KRC_n {rs:List ResultVar} {own:Bool} {d:Dat} {B:Blk} {σ:St}:KRC T rs own d B .normal σ=(RetOK T σ own rs [d]/\look σ.mem 0=some B):=(rfl)
@[go_sem] theorem KRC_r {rs:List ResultVar} {own:Bool} {d:Dat} {B:Blk} {σ:St}:KRC T rs own d B .ret σ=(RetOK T σ own rs [d]/\look σ.mem 0=some B):=(rfl)
theorem fnC_enter (hT:TabOK P T) (hmix:P.follows .mixedOrders=true) {f:FuncId} {fn:Func} {code:Code} {t:Ty} {l:List t.den} {zs zs':List Value} {args:List Dat} {own:Bool} {d:Dat} (hf:P.funcs[f]? = some fn) (hname:(fn.name == "runtime.NumGoroutine")=false) (hb:fn.body=some code) (n:Nat) (hn:fn.ntmps=n) (rs:List ResultVar) (hr:fn.results=rs.toArray) (hna:args.length < n)
  (hz:∀ z ∈ zs',z.oneCell'=true/\okv z) (hzo:∀ z ∈ zs,z.oneCell'=true)
  (h:∀ b u0,Wf (.slice t) l->(∀ z ∈ zs,okv z)->(∀ d ∈ args,Wf d.1 d.2)->AC P T n code (KRC T rs own d (.bx (some b) (.fx u0 t l :: zs'.map fun z=>.sc z))) ⟨(0,.ptr 0 0) :: argTm 1 args,[(0,.bx (some b) (.fx u0 t l :: zs.map fun z=>.sc z))]⟩):FnC P f t l zs zs' args own d:=by
 subst hn
 refine ⟨fun vs w=>?_,hz,fun w b u0 e fp vs S hg hzs hrp hfp hSb hargs=>?_⟩
 ·have h1:fn.name ≠ "runtime.NumGoroutine":=by simpa using hname
  simp [callFunc,hf,h1,hb]
 ·refine calls_of_wp hf hb ?_
  have hlen:=hargs.len
  let c:Cx:=⟨w.heap.size,w,S,fn.ntmps,fun x=>x=b⟩
  have hmut:∀ {Γ:Asg} {x:Nat},S x->¬ Mut [(0,Blk.bx (some b) (.fx u0 t l :: zs.map fun z=>.sc z))] Γ x:=by
   rintro Γ x hx ⟨k,B,hk,hm⟩
   by_cases h0:k=0
   ·subst h0
    rw [look_self] at hk; injection hk with hk; subst hk
    obtain rfl:x=b:=hm
    exact hSb hx
   ·rw [look_ne _ _ h0] at hk; cases hk
  have hs:Sim c ⟨(0,.ptr 0 0) :: argTm 1 args,[(0,.bx (some b) (.fx u0 t l :: zs.map fun z=>.sc z))]⟩ ⟨fun _=>0,fun _=>undef,fun _=>[]⟩ { tmps:=(.pointer (some ⟨b,0,none⟩) :: vs).toArray++Array.replicate (fn.ntmps - (Value.pointer (some ⟨b,0,none⟩) :: vs).toArray.size) undef,defers:=[] } w:=by
   refine ⟨fun d v hd=>?_,fun k B hk=>?_,fun k k' B B' x hk hk' _ _=>?_,fun k k' B B' x hk hk' hne hx=>?_,.of (Below.refl _ _),Nat.le_refl _,rfl,by simp [c]; omega⟩
   ·by_cases hd0:d=0
    ·subst hd0
     rw [look_self] at hd; injection hd with hd; subst hd
     refine ⟨.pointer (some ⟨b,0,none⟩),?_,some b,_,look_self ..,rfl⟩
     rw [Array.getElem?_append_left (by simp)]; rfl
    ·rw [look_ne _ _ hd0] at hd
     obtain ⟨h1,h2,e,h3,rfl⟩:=argTm_ge hd
     obtain ⟨u,hu,fp,hdr,hS⟩:=args_at hargs h3
     refine ⟨u,?_,arep_vrep (av_rep hdr fun x hx=>⟨.inl (hS x hx),hmut (hS x hx)⟩)⟩
     have hdl:d < (Value.pointer (some ⟨b,0,none⟩) :: vs).length:=by simp; omega
     rw [Array.getElem?_append_left (by simpa using hdl)]
     have:d=(d - 1)+1:=by omega
     rw [this]
     simpa using hu
   ·by_cases h0:k=0
    ·subst h0
     rw [look_self] at hk; injection hk with hk; subst hk
     refine ⟨rfl,_,e,hg,⟨rfl,fp,hrp,fun x hx=>⟨.inl (hfp x hx),hmut (hfp x hx)⟩⟩,?_⟩
     have key:∀ {ys:List Value},(∀ z ∈ ys,okv z)->(∀ z ∈ ys,z.oneCell'=true)->∀ {M:Mm} {Γ:Asg},All2 (CRep c M Γ w) (ys.map fun z=>AV.sc z) ys:=fun h1 h2=>vals_sc fun z hz=>⟨h2 z hz,h1 z hz⟩
     exact key hzs hzo
    ·rw [look_ne _ _ h0] at hk; cases hk
   ·by_cases h0:k=0<;>by_cases h1:k'=0
    ·omega
    ·rw [look_ne _ _ h1] at hk'; cases hk'
    ·rw [look_ne _ _ h0] at hk; cases hk
    ·rw [look_ne _ _ h0] at hk; cases hk
   ·by_cases h0:k=0
    ·subst h0
     rw [look_self] at hk; injection hk with hk; subst hk; cases hx
    ·rw [look_ne _ _ h0] at hk; cases hk
  have hrl:fn.results.toList=rs:=by rw [hr]
  refine AC_wp (c:=c) hT hmix (h b u0 (rep_wf (t:=.slice t) hrp) hzs (args_wf hargs)) hs fun e σ' Γ' a' w' hq hs'=>?_
  have hq':∀ (hx:RetOK T σ' own rs [d]/\look σ'.mem 0=some (.bx (some b) (.fx u0 t l :: zs'.map fun z=>.sc z))),a'.defers=[]/\∃ v,(results fn a'.tmps).run P w'=.ok v w'/\BelowX (fun x=>x=b) w.heap.size w w'/\(∃ e,w'.heap[b]? = some (.cells (u0 :: zs').toArray e (0,0)))/\∃ u,Ending.returned v=.returned u/\ResOK own w.heap.size S w' u [d]:=fun hx=>by
   obtain ⟨v,h1,h2⟩:=ret_ok (P:=P) (fn:=fn) hT hs' (by rw [hrl]; exact hx.1)
   obtain ⟨_,us,e,hge,hce⟩:=hs'.mm 0 _ hx.2
   refine ⟨hs'.defs,v,h1,hs'.below,⟨e,?_⟩,v,rfl,h2⟩
   have hul:us.toList=u0 :: zs':=by
    cases hul:us.toList with
    | nil=>rw [hul] at hce; exact hce.elim
    | cons x xs =>
     rw [hul] at hce
     obtain ⟨h3,_⟩:=sc_vals hce.2
     rw [h3,show x=u0 from hce.1.1]
   rw [show (u0 :: zs').toArray=us by rw [<-hul]]
   exact hge
  cases e with
  | normal=>exact hq' hq
  | ret=>exact hq' hq
  | _=>exact hq.elim
def RetN (T:TypeId->Option Ty) (rs:List ResultVar) (cs:List AV) (σ:St):Prop :=
 match rs with
 | [r]=>match aRes T σ r with
  | some (.ptr k 0)=>look σ.mem k=some (.bx none cs)
  | _=>False
 | _=>False
def KRN (T:TypeId->Option Ty) (rs:List ResultVar) (cs:List AV) (ex:Exit) (σ:St):Prop :=
 match ex with
 | .normal|.ret=>RetN T rs cs σ
 | _=>False
@[go_sem] theorem KRN_n {rs:List ResultVar} {cs:List AV} {σ:St}:KRN T rs cs .normal σ=RetN T rs cs σ:=(rfl)
@[go_sem] theorem KRN_r {rs:List ResultVar} {cs:List AV} {σ:St}:KRN T rs cs .ret σ=RetN T rs cs σ:=(rfl)
attribute [go_sem] RetN
theorem fnN_enter (hT:TabOK P T) (hmix:P.follows .mixedOrders=true) {f:FuncId} {fn:Func} {code:Code} {t:Ty} {l:List t.den} {zs:List Value} {args:List Dat} (hf:P.funcs[f]? = some fn) (hname:(fn.name == "runtime.NumGoroutine")=false) (hb:fn.body=some code) (n:Nat) (hn:fn.ntmps=n) (rs:List ResultVar) (hr:fn.results=rs.toArray) (hna:args.length < n)
  (hz:∀ z ∈ zs,z.oneCell'=true/\okv z)
  (h:∀ u0,Wf (.slice t) l->(∀ d ∈ args,Wf d.1 d.2)->AC P T n code (KRN T rs (.fx u0 t l :: zs.map fun z=>.sc z)) ⟨(0,.fx u0 t l) :: argTm 1 args,[]⟩):FnN P f t l zs args:=by
 subst hn
 refine ⟨fun vs w=>?_,hz,fun w u0 fp vs S hrp hfp hargs=>?_⟩
 ·have h1:fn.name ≠ "runtime.NumGoroutine":=by simpa using hname
  simp [callFunc,hf,h1,hb]
 ·refine calls_of_wp hf hb ?_
  have hlen:=hargs.len
  let c:Cx:=⟨w.heap.size,w,S,fn.ntmps,fun _=>False⟩
  have hs:Sim c ⟨(0,.fx u0 t l) :: argTm 1 args,[]⟩ ⟨fun _=>0,fun _=>undef,fun _=>[]⟩ { tmps:=(u0 :: vs).toArray++Array.replicate (fn.ntmps - (u0 :: vs).toArray.size) undef,defers:=[] } w:=by
   refine ⟨fun d v hd=>?_,fun k B hk=>(by cases hk),fun k k' B B' b hk=>(by cases hk),fun k k' B B' b hk=>(by cases hk),.of (Below.refl _ _),Nat.le_refl _,rfl,by simp [c]; omega⟩
   have hmut:∀ {Γ:Asg} {x:Nat},¬ Mut [] Γ x:=by rintro Γ x ⟨k,B,hk,_⟩; cases hk
   by_cases hd0:d=0
   ·subst hd0
    rw [look_self] at hd; injection hd with hd; subst hd
    refine ⟨u0,?_,rfl,fp,hrp,fun x hx=>⟨.inl (hfp x hx),hmut⟩⟩
    rw [Array.getElem?_append_left (by simp)]; rfl
   ·rw [look_ne _ _ hd0] at hd
    obtain ⟨h1,h2,e,h3,rfl⟩:=argTm_ge hd
    obtain ⟨u,hu,fp,hdr,hS⟩:=args_at hargs h3
    refine ⟨u,?_,arep_vrep (av_rep hdr fun x hx=>⟨.inl (hS x hx),hmut⟩)⟩
    have hdl:d < (u0 :: vs).length:=by simp; omega
    rw [Array.getElem?_append_left (by simpa using hdl)]
    have:d=(d - 1)+1:=by omega
    rw [this]
    simpa using hu
  have hrl:fn.results.toList=rs:=by rw [hr]
  refine AC_wp (c:=c) hT hmix (h u0 (rep_wf (t:=.slice t) hrp) (args_wf hargs)) hs fun e σ' Γ' a' w' hq hs'=>?_
  have hq':∀ (hx:RetN T rs (.fx u0 t l :: zs.map fun z=>.sc z) σ'),a'.defers=[]/\∃ v,(results fn a'.tmps).run P w'=.ok v w'/\Below w.heap.size w w'/\∃ (b:Nat) (e:TypeId),Ending.returned v=.returned (.pointer (some ⟨b,0,none⟩))/\w.heap.size<=b/\w'.heap[b]? = some (.cells (u0 :: zs).toArray e (0,0)):=fun hx=>by
   unfold RetN at hx
   split at hx
   ·rename_i r
    split at hx
    ·rename_i k h1
     obtain ⟨u,g1,xo,cs',hq,rfl⟩:=aRes_run (P:=P) hT hs' h1 rfl
     rw [hx] at hq; cases hq
     obtain ⟨hbase,us,e,hge,hce⟩:=hs'.mm k _ hx
     have hul:us.toList=u0 :: zs:=by
      cases hul:us.toList with
      | nil=>rw [hul] at hce; exact hce.elim
      | cons x xs =>
       rw [hul] at hce
       obtain ⟨h3,_⟩:=sc_vals hce.2
       rw [h3,show x=u0 from hce.1.1]
     refine ⟨hs'.defs,_,?_,hs'.below.to,Γ'.loc k none,e,rfl,hbase,by rw [show (u0 :: zs).toArray=us by rw [<-hul]]; exact hge⟩
     rw [results_eq,hr,List.mapM_toArray,map_eq_pure_bind,Sem.run_bind,Sem.run_bind]
     simp only [List.mapM_cons,List.mapM_nil,Sem.run_bind,g1,Result.andThen_ok,Sem.run_pure]
     simp
    ·exact hx.elim
   ·exact hx.elim
  cases e with
  | normal=>exact hq' hq
  | ret=>exact hq' hq
  | _=>exact hq.elim
def FnB (P:Program) (f:FuncId) (vs:List AV) (M:Mm) (own:Bool) (res:List Dat):Prop :=
 (∀ vs w,(callFunc f vs).run P w=.ok (.enter f vs) w) ∧
 ∀ (c:Cx) (Γ:Asg) (a:Act) (w:World) (tm:Tm) (us:List Value),Sim c ⟨tm,M⟩ Γ a w->All2 (fun v u=>ARep c M Γ w v u) vs us →
  Calls P f us.toArray w fun en w'=>BelowX c.X c.base c.w0 w'/\c.base<=w'.heap.size/\∃ v,en=.returned v/\ResOK own c.base c.S w' v res
def TW (P:Program) (n:Nat) (x:Code) (Q:Exit->St->Prop) (σ:St):Prop :=
 ∀ (c:Cx) (Γ:Asg) (a:Act) (w:World) (Q':Exit->Act->World->Prop),c.n=n->Sim c σ Γ a w->(∀ e σ' Γ' a' w',Q e σ'->Sim c σ' Γ' a' w'->Q' e a' w')->x.wp P Q' a w
theorem TW.of (hT:TabOK P T) (hmix:P.follows .mixedOrders=true) {n:Nat} {x:Code} {Q:Exit->St->Prop} {σ:St} (h:AC P T n x Q σ):TW P n x Q σ :=
 fun c Γ a w Q' hn hs hQ=>AC_wp hT hmix (by rw [hn]; exact h) hs hQ
theorem TW.seq (hT:TabOK P T) (hmix:P.follows .mixedOrders=true) {n:Nat} {x y:Code} {Q:Exit->St->Prop} {σ:St} (h:AC P T n x (thenA (fun σ'=>TW P n y Q σ') Q) σ):TW P n (.seq x y) Q σ :=
 fun c Γ a w Q' hn hs hQ=>by
  refine wp_seq (AC_wp hT hmix (show AC P T c.n x _ σ by rw [hn]; exact h) hs fun e σ' Γ' a' w' hq hs'=>?_)
  cases e with
  | normal=>exact hq c Γ' a' w' Q' hn hs' hQ
  | _=>exact hQ _ _ _ _ _ hq hs'
theorem TW.then (hT:TabOK P T) (hmix:P.follows .mixedOrders=true) {n:Nat} {x y:Code} {Q:Exit->St->Prop} {σ:St} (h:TW P n x (thenA (fun σ'=>AC P T n y Q σ') Q) σ):TW P n (.seq x y) Q σ :=
 fun c Γ a w Q' hn hs hQ=>by
  refine wp_seq (h c Γ a w _ hn hs fun e σ' Γ' a' w' hq hs'=>?_)
  cases e with
  | normal=>exact AC_wp hT hmix (show AC P T c.n y Q σ' by rw [hn]; exact hq) hs' hQ
  | _=>exact hQ _ _ _ _ _ hq hs'
theorem went_app {c:Cx} {ops:List Oper} {Q:Exit->Act->World->Prop} {post:List Oper}:∀ {os:List Oper} {es:List Eff} {σ:St} {Γ:Asg} {a:Act} {w:World},Went' P c ops σ os es->Sim c σ Γ a w->(∀ Γ' a' w',Sim c (runEs σ (os.zip es)) Γ' a' w'->wpList P ops.toArray Q post a' w')->wpList P ops.toArray Q (os++post) a w
 | [],_,σ,Γ,a,w,.nil _,hs,hQ=>hQ Γ a w hs
 | o :: os,e :: es,σ,Γ,a,w,.cons h1 h2,hs,hQ=>by
  refine wpList_step fun K hK=>?_
  exact h1.step hs (fun _ _=>rfl) (fun _ _ _ _ _=>rfl) (fun _ _=>rfl) fun Γ' a' w' hs'=>hK _ _ (went_app h2 hs' hQ)
def resV (own:Bool) (d:Dat):AV:=if own then oav 0 d else av d.1 d.2
def resM' (own:Bool) (d:Dat):Mm:=if own then (ocel 0 d.1 d.2).2 else []
def TailW (P:Program) (T:TypeId->Option Ty) (n:Nat) (ops:List Oper) (f:FuncId) (xs:List Operand) (d:Nat) (post:List Oper) (own:Bool) (r:Dat) (Q:Exit->St->Prop) (σ:St):Prop :=
 ∃ τ vs,Wk σ τ/\evs (look τ.tmps) xs=some vs/\vs.all AV.ok=true/\FnB P f vs τ.mem own [r]/\d < n/\AO P T n ops post ⟨[(d,resV own r)],resM' own r⟩ [] (fun σ' _=>Q .normal σ')
theorem TW.tail (hT:TabOK P T) {n id:Nat} {l:List Oper} (i:Nat) {d:Nat} {f:FuncId} {xs:Array Operand} {tys:Array TypeId} {ty:TypeId} {ps:String} {af:Array Edge} {post:List Oper} {own:Bool} {r:Dat} {Q:Exit->St->Prop} {σ:St}
  (hl:l.drop i=⟨some d,.call { callee:=.value (.func f),args:=xs,argTypes:=tys },ty,ps,af,none⟩ :: post)
  (h:AO P T n l (l.take i) σ [] (fun σ1 _=>TailW P T n l f xs.toList d post own r Q σ1)):TW P n (.region id l.toArray false) Q σ:=fun c Γ a w Q' hn hs hQ=>by
 subst hn
 obtain ⟨es,σ',h1,h3,h4⟩:=AO_went hT h Same.rfl'
 refine wp_region_lit ?_
 have hsp:l=l.take i++l.drop i:=(List.take_append_drop i l).symm
 rw [show wpList P l.toArray Q' l a w=wpList P l.toArray Q' (l.take i++l.drop i) a w by rw [<-hsp]]
 refine went_app h1 hs fun Γ1 a1 w1 hs1=>?_
 have hs1:=hs1.same h4
 obtain ⟨τ,vs,hwk,hev,hok,hfn,hd,hpost⟩:=h3
 obtain ⟨Γ2,hs2⟩:=wk_sim hs1 hwk
 rw [hl]
 refine wpList_step fun K hK=>?_
 rw [if_pos (by simp [Region.wanted])]
 have hvs:=evs_rep hs2 (xs:=xs.toList) (fun x _ t e=>rfl) hev hok
 have hvs':All2 (fun v u=>ARep c τ.mem Γ2 w1 v u) vs (xs.toList.map a1.eval):=by
  have:∀ {vs:List AV} {ys:List Operand},All2 (fun v x=>ARep c τ.mem Γ2 w1 v (a1.eval x)) vs ys->All2 (fun v u=>ARep c τ.mem Γ2 w1 v u) vs (ys.map a1.eval):=by
   intro vs ys
   induction vs generalizing ys with
   | nil=>intro h; cases ys with|nil=>trivial|cons=>exact h.elim
   | cons v vs ih=>intro h; cases ys with
    | nil=>exact h.elim
    | cons y ys=>exact ⟨h.1,ih h.2⟩
  exact this hvs
 have hrun:(execOp a1.eval ⟨some d,.call { callee:=.value (.func f),args:=xs,argTypes:=tys },ty,ps,af,none⟩).run P w1=.ok (.enter f (xs.map a1.eval)) w1:=by
  have h0:=hfn.1 (xs.map a1.eval) w1
  have e1:a1.eval (.func f)=.func (.func f) #[] #[]:=rfl
  simp [execOp,resolve,e1,Deferred.ofValue,invoke,h0]
 unfold Oper.wp
 rw [hrun,Oper.upon_enter]
 have hma:xs.map a1.eval=(xs.toList.map a1.eval).toArray:=Array.toList_inj.1 (by rw [Array.toList_map])
 rw [hma]
 refine (hfn.2 c Γ2 a1 w1 τ.tmps _ hs2 hvs').mono ?_
 rintro e w' ⟨hb,hbs,u,rfl,fp,hdr,hown,hfp⟩
 have h0:Sim c ⟨[],[]⟩ ⟨fun _=>0,fun _=>undef,fun _=>[]⟩ a1 w' :=
  ⟨fun d v hd=>(by cases hd),fun k B hk=>(by cases hk),fun k k' B B' b hk=>(by cases hk),fun k k' B B' b hk=>(by cases hk),hb,hbs,hs1.defs,hs1.sz⟩
 have hfin:∃ Γ3,Sim c ⟨[(d,resV own r)],resM' own r⟩ Γ3 (a1.put (some d) u) w':=by
  cases own with
  | true =>
   have ho:=hown rfl
   obtain ⟨cs,hpk,hrp⟩:=hdr
   obtain ⟨Γ',s1,r1,_,_,_⟩:=h0.ocel (k:=0) hrp ho (fun b hbb=>⟨.inr (ho.2 b hbb).1,fun ⟨k,B,hB,_⟩=>by cases hB⟩) (fun b hbb j B hj=>by cases hj) (fun p hp=>rfl)
   refine ⟨Γ',?_⟩
   have hv:VRep c ((ocel 0 r.1 r.2).2++[]) Γ' w' (oav 0 r) u:=by
    unfold oav
    rcases hpk with ⟨hag,rfl⟩|⟨hag,rfl⟩
    ·rw [hag]; exact ⟨cs,rfl,r1⟩
    ·rw [hag]
     obtain ⟨v,hv1⟩:=ocel_one (k:=0) (x:=r.2) hag
     rw [hv1] at r1 ⊢
     exact crep_vrep r1.1
   have:=s1.put (d:=some d) hv (fun x hx=>by injection hx with hx; subst hx; exact hd)
   simpa [resV,resM',St.put] using this
  | false =>
   refine ⟨⟨fun _=>0,fun _=>undef,fun _=>[]⟩,?_⟩
   have hv:VRep c [] ⟨fun _=>0,fun _=>undef,fun _=>[]⟩ w' (av r.1 r.2) u:=arep_vrep (av_rep hdr fun b hbb=>⟨hfp b hbb,fun ⟨k,B,hB,_⟩=>by cases hB⟩)
   have:=h0.put (d:=some d) hv (fun x hx=>by injection hx with hx; subst hx; exact hd)
   simpa [resV,resM',St.put] using this
 obtain ⟨Γ3,hs3⟩:=hfin
 obtain ⟨es',σ'',g1,g3,g4⟩:=AO_went hT hpost Same.rfl'
 exact hK _ _ (went_list g1 hs3 fun Γ' a' w' hs'=>hQ _ _ _ _ _ g3 (hs'.same g4))
end
end Go.Proofs.YtaflkgjckmfkoaaGreat.DW

namespace Go.Proofs.YtaflkgjckmfkoaaGreat.DW
open Go.RowKit
theorem andI_rng (a:Int) {m:Int} (h0:0<=m) (h1:m<=9223372036854775807):0<=andI a m/\andI a m<=m:=by
 have hle:(BitVec.ofInt 64 a &&& BitVec.ofInt 64 m).toNat<=m.toNat:=by
  rw [BitVec.toNat_and]
  refine Nat.le_trans Nat.and_le_right ?_
  rw [BitVec.toNat_ofInt]
  have h64:((2 ^ 64:Nat):Int)=18446744073709551616:=by decide
  have:m % ((2 ^ 64:Nat):Int)=m:=Int.emod_eq_of_lt h0 (by omega)
  rw [this]
  exact Nat.le_refl _
 unfold andI
 rw [wrap_I64 (by constructor<;>omega)]
 omega
def tyW:TypeId->Option Ty
 | 3=>some .int
 | 5=>some .u8
 | 22=>some (.slice .u8)
 | 88=>some tCur
 | _=>none
theorem tabOKW:TabOK Tryz.prog tyW:=by
 intro ty t h
 unfold tyW at h
 split at h
 all_goals first|cases h; done|(injection h with h; subst h; exact tyOK (by kernel_rfl) (by kernel_rfl))
attribute [go_sem] tyW
theorem wildW:wild tyW:=by
 intro ty h
 unfold tyW at h
 split at h<;>cases h
@[go_sem] theorem aBin_wild {P:Program} {lt:Nat->Option AV} {K:Eff->Prop} {op:BinOp} {ty:TypeId} {x y:Operand}:aBin P tyW lt K op ty x y=aBinX P lt K op ty x y:=if_pos wildW
def nu (l:List Int) (i:Nat):Int:=nth (t:=.u8) l i
@[go_sem] theorem nth_u8 (l:List Int) (i:Nat):@nth .u8 l i=nu l i:=(rfl)
structure Cu (code:List Int) where
 i:Nat
 h:Int
 hi:i<=code.length
 hh:I64 h
def stH (h:Int):Int:=IntKind.i64.wrap (IntKind.i64.wrap (h * 6364136223846793005)+1442695040888963407)
def stX (h:Int):Int:=andI (xorI (h.fdiv (2 ^ 33)) (h.fdiv (2 ^ 45))) 255
theorem stX_rng (h:Int):0<=stX h/\stX h<=255:=andI_rng _ (by decide) (by decide)
variable {code:List Int}
def Cu.next (c:Cu code):Cu code:=⟨if c.i < code.length then c.i+1 else c.i,stH c.h,by have:=c.hi; split<;>omega,wrap_in _⟩
def Cu.byte (c:Cu code):Int:=if c.i < code.length then andI (stX (stH c.h)+nu code c.i) 255 else stX (stH c.h)
theorem Cu.byte_rng (c:Cu code):0<=c.byte/\c.byte<=255:=by
 unfold Cu.byte
 split
 ·exact andI_rng _ (by decide) (by decide)
 ·exact stX_rng _
@[reducible] def cz (c:Cu code):List Value:=[.int .i64 c.i,.int .i64 c.h]
theorem cz_one (c:Cu code):∀ z ∈ cz c,z.oneCell'=true:=by
 intro z hz
 rcases List.mem_cons.1 hz with rfl|hz
 ·rfl
 ·rw [List.mem_singleton.1 hz]; rfl
theorem cz_ok (hc:code.length<=1048576) (c:Cu code):∀ z ∈ cz c,z.oneCell'=true/\okv z:=by
 intro z hz
 have:=c.hi
 rcases List.mem_cons.1 hz with rfl|hz
 ·exact ⟨rfl,by show I64 (c.i:Int); constructor<;>omega⟩
 ·rw [List.mem_singleton.1 hz]; exact ⟨rfl,c.hh⟩
abbrev Dr (f:FuncId) (c c':Cu code) (args:List Dat) (own:Bool) (d:Dat):Prop:=FnC Tryz.prog f .u8 code (cz c) (cz c') args own d
theorem u8_at (hw:Wf (.slice .u8) code) {i:Nat} (h:i < code.length):0<=nu code i/\nu code i<=255:=by
 rw [nu,nth_lt h]; exact hw.2 _ (List.getElem_mem h)
set_option maxRecDepth 100000 in
set_option maxHeartbeats 1000000 in
theorem l01Byte_fn (hc:code.length<=1048576) (c:Cu code):Dr 25 c c.next [] false ⟨.int,c.byte⟩:=by
 have hi:=c.hi
 have h1:=c.hh.1
 have h2:=c.hh.2
 have h3:=c.next.hh.1
 have h4:=c.next.hh.2
 have h5:=c.next.hi
 by_cases hlt:c.i < code.length
 ·have e1:c.next.i=c.i+1:=if_pos hlt
  have e2:c.byte=andI (stX (stH c.h)+nu code c.i) 255:=if_pos hlt
  rw [e2]
  refine fnC_enter tabOKW mixes Tryz.func25 rfl rfl _ Tryz.ntmps25 _ Tryz.results25 (by simp) (cz_ok hc _) (cz_one _) fun b u0 hwl hzs hwf=>?_
  have hu:=u8_at hwl hlt
  have hx:=stX_rng (stH c.h)
  unfold stX stH at hx
  have d1:decide ((c.i:Int) < (code.length:Int))=true:=decide_eq_true (by omega)
  have w1:IntKind.i64.wrap ((c.i:Int)+1)=(c.i:Int)+1:=wrap_I64 (by constructor<;>omega)
  have w2:=wrap_I64 (n:=andI (xorI ((IntKind.i64.wrap (IntKind.i64.wrap (c.h * 6364136223846793005)+1442695040888963407)).fdiv (2 ^ 33)) ((IntKind.i64.wrap (IntKind.i64.wrap (c.h * 6364136223846793005)+1442695040888963407)).fdiv (2 ^ 45))) 255+nu code c.i) (by constructor<;>omega)
  try simp (maxSteps:=9^9) only[go_sem]
  repeat refine And.intro (by first|omega|(constructor<;>omega)|kernel_rfl) ?_
  try simp (maxSteps:=9^9) only[go_sem,d1,w1,w2,e1]
  repeat refine And.intro (by first|omega|(constructor<;>omega)|kernel_rfl) ?_
  and_intros
  all_goals first|rfl|omega
 ·have e1:c.next.i=c.i:=if_neg hlt
  have e2:c.byte=stX (stH c.h):=if_neg hlt
  rw [e2]
  refine fnC_enter tabOKW mixes Tryz.func25 rfl rfl _ Tryz.ntmps25 _ Tryz.results25 (by simp) (cz_ok hc _) (cz_one _) fun b u0 hwl hzs hwf=>?_
  have hx:=stX_rng (stH c.h)
  have d1:decide ((c.i:Int) < (code.length:Int))=false:=decide_eq_false (by omega)
  try simp (maxSteps:=9^9) only[go_sem]
  repeat refine And.intro (by first|omega|(constructor<;>omega)|kernel_rfl) ?_
  try simp (maxSteps:=9^9) only[go_sem,d1]
  repeat refine And.intro (by first|omega|(constructor<;>omega)|kernel_rfl) ?_
  try simp (maxSteps:=9^9) only[go_sem,e1]
  and_intros
  all_goals first|rfl|omega
def Cu.below (c:Cu code) (n:Int):Int:=c.byte % n
theorem Cu.below_rng (c:Cu code) {n:Int} (h:1<=n):0<=c.below n/\c.below n < n:=⟨Int.emod_nonneg _ (by omega),Int.emod_lt_of_pos _ (by omega)⟩
theorem l01Below_fn (hc:code.length<=1048576) (c:Cu code) (n:Int) (h:1<=n/\n<=256):Dr 23 c c.next [⟨.int,n⟩] false ⟨.int,c.below n⟩:=by
 have hb:=c.byte_rng
 have d1:decide (n<=0)=false:=decide_eq_false (by omega)
 have d2:decide (n<=256)=true:=decide_eq_true (by omega)
 refine fnC_enter tabOK mixes Tryz.func23 rfl rfl _ Tryz.ntmps23 _ Tryz.results23 (by simp) (cz_ok hc _) (cz_one _) fun b u0 hwl hzs hwf=>?_
 try simp (maxSteps:=9^9) only[go_sem,d1,d2]
 repeat refine And.intro (by first|omega|(constructor<;>omega)|kernel_rfl) ?_
 refine CallW.c false (l01Byte_fn hc c) ?_
 try simp (maxSteps:=9^9) only[go_sem]
 refine RemW.pos hb.1 (by omega) ?_
 try simp (maxSteps:=9^9) only[go_sem]
 rfl
theorem l01Once_fn (hc:code.length<=1048576) (c:Cu code) (n:Int) (h:1<=n/\n<=256):Dr 55 c c.next [⟨.int,n⟩] false ⟨.bool,decide (c.below n=0)⟩:=by
 refine fnC_enter tabOK mixes Tryz.func55 rfl rfl _ Tryz.ntmps55 _ Tryz.results55 (by simp) (cz_ok hc _) (cz_one _) fun b u0 hwl hzs hwf=>?_
 try simp (maxSteps:=9^9) only[go_sem]
 repeat refine And.intro (by first|omega|(constructor<;>omega)|kernel_rfl) ?_
 refine CallW.c false (l01Below_fn hc c n h) ?_
 try simp (maxSteps:=9^9) only[go_sem]
def h0 (code:List Int):Nat->Int
 | 0=>1952+code.length
 | k+1=>andI (h0 code k * 61+nu code k+7) 1073741823
theorem h0_rng (hc:code.length<=1048576) (k:Nat):0<=h0 code k/\h0 code k<=1073741823:=by
 cases k with
 | zero=>show 0<=1952+(code.length:Int)/\1952+(code.length:Int)<=1073741823; omega
 | succ k=>exact andI_rng _ (by decide) (by decide)
def Cu.new (code:List Int) (hc:code.length<=1048576):Cu code:=⟨0,h0 code (min code.length 4000),Nat.zero_le _,by have:=h0_rng hc (min code.length 4000); constructor<;>omega⟩
theorem l01New_fn (hc:code.length<=1048576):FnN Tryz.prog 21 .u8 code (cz (Cu.new code hc)) []:=by
 refine fnN_enter tabOK mixes Tryz.func21 rfl rfl _ Tryz.ntmps21 _ Tryz.results21 (by simp) (cz_ok hc _) fun u0 hwl hwf=>?_
 try simp (maxSteps:=9^9) only[go_sem]
 repeat refine And.intro (by first|omega|(constructor<;>omega)|kernel_rfl) ?_
 refine LoopG.intro _ _ _ (fun i:Nat=>⟨[(0,.fx u0 .u8 code),(3,.sc (.int .i64 (h0 code i))),(4,.sc (.int .i64 i))],[]⟩) (fun i=>i<=code.length/\i<=4000) (fun i=>code.length - i) 0 ?_ ⟨Nat.zero_le _,Nat.zero_le _⟩ ?_
 ·refine Wk.mk [] ?_
  try simp (maxSteps:=9^9) only[go_sem]
  try (and_intros<;>first|rfl|omega|exact ⟨_,rfl⟩)
 ·rintro i ⟨hi,hi2⟩
  have hr:=h0_rng hc i
  try simp (maxSteps:=9^9) only[go_sem]
  refine GuardW_dec (fun hA=>?_) (fun hA=>?_)
  ·try simp (maxSteps:=9^9) only[go_sem]
   refine CondW_dec (fun hB=>?_) (fun hB=>?_)
   ·have hu:=u8_at hwl (show i < code.length by omega)
    try simp (maxSteps:=9^9) only[go_sem]
    repeat refine And.intro (by first|omega|(constructor<;>omega)|kernel_rfl) ?_
    try simp (maxSteps:=9^9) only[go_sem]
    repeat refine And.intro (by first|omega|(constructor<;>omega)|kernel_rfl) ?_
    refine LoopK.mk (i+1) ?_ ⟨by omega,by omega⟩ (by omega)
    refine Wk.mk [] ?_
    try simp (maxSteps:=9^9) only[go_sem]
    try (and_intros<;>first|rfl|omega|exact ⟨_,rfl⟩)
   ·have e:min code.length 4000=i:=by omega
    try simp (maxSteps:=9^9) only[go_sem]
    exact ⟨rfl,by show h0 code i=h0 code (min code.length 4000); rw [e]⟩
  ·have e:min code.length 4000=i:=by omega
   try simp (maxSteps:=9^9) only[go_sem]
   exact ⟨rfl,by show h0 code i=h0 code (min code.length 4000); rw [e]⟩
def Cu.skip (c:Cu code):Nat->Cu code
 | 0=>c
 | k+1=>(c.skip k).next
def Cu.at (code:List Int) (hc:code.length<=1048576) (n:Int):Cu code:=(Cu.new code hc).skip n.toNat
end Go.Proofs.YtaflkgjckmfkoaaGreat.DW

namespace Go.Proofs.YtaflkgjckmfkoaaGreat.DW
open Go.RowKit
theorem limb_fn (l:List Int) (i:Int) (h0:0<=i):Fn Tryz.prog 110 [⟨tInts,l⟩,⟨.int,i⟩] false [⟨.int,ni l i.toNat⟩]:=by
 refine fn_enter tabOK mixes Tryz.func110 rfl rfl _ Tryz.ntmps110 _ Tryz.results110 (by simp) fun hwf=>?_
 try simp (maxSteps:=9^9) only[go_sem]
 refine CondW_dec (fun hc=>?_) (fun hc=>?_)
 ·try simp (maxSteps:=9^9) only[go_sem]
  exact ⟨h0,hc⟩
 ·try simp (maxSteps:=9^9) only[go_sem]
  exact (ni_ge (by omega)).symm
def cmpI (a b:Int):Int:=if a < b then -1 else if b < a then 1 else 0
def cmpR (a b:List Int):Nat->Int
 | 0=>0
 | k+1=>if ni a k=ni b k then cmpR a b k else cmpI (ni a k) (ni b k)
def cmpL (a b:List Int):Int:=if a.length=b.length then cmpR a b a.length else cmpI a.length b.length
theorem cmpR_step {a b:List Int} {i:Int} (h:0<=i):cmpR a b (i+1).toNat=if ni a i.toNat=ni b i.toNat then cmpR a b i.toNat else cmpI (ni a i.toNat) (ni b i.toNat):=by
 rw [show (i+1).toNat=i.toNat+1 by omega]; rfl
theorem isNaN_fn (a:Int):Fn Tryz.prog 170 [⟨.int,a⟩] false [⟨.bool,false⟩]:=by
 refine fn_enter tabOK mixes Tryz.func170 rfl rfl _ Tryz.ntmps170 _ Tryz.results170 (by simp) fun hwf=>?_
 try simp (maxSteps:=9^9) only[go_sem]
theorem compare_fn (a b:Int):Fn Tryz.prog 146 [⟨.int,a⟩,⟨.int,b⟩] false [⟨.int,cmpI a b⟩]:=by
 refine fn_enter tabOK mixes Tryz.func146 rfl rfl _ Tryz.ntmps146 _ Tryz.results146 (by simp) fun hwf=>?_
 try simp (maxSteps:=9^9) only[go_sem]
 repeat refine And.intro (by first|omega|(constructor<;>omega)|kernel_rfl) ?_
 refine CallW.mk (isNaN_fn a) ?_
 try simp (maxSteps:=9^9) only[go_sem]
 repeat refine And.intro (by first|omega|(constructor<;>omega)|kernel_rfl) ?_
 refine CallW.mk (isNaN_fn b) ?_
 try simp (maxSteps:=9^9) only[go_sem]
 refine CondW_dec (fun h=>?_) (fun h=>?_)
 ·try simp (maxSteps:=9^9) only[go_sem]
  rw [cmpI,if_pos h]
 ·try simp (maxSteps:=9^9) only[go_sem]
  refine CondW_dec (fun h2=>?_) (fun h2=>?_)
  ·try simp (maxSteps:=9^9) only[go_sem]
   rw [cmpI,if_neg h,if_pos h2]
  ·try simp (maxSteps:=9^9) only[go_sem]
   rw [cmpI,if_neg h,if_neg h2]
theorem natCmp_fn (a b:List Int):Fn Tryz.prog 113 [⟨tInts,a⟩,⟨tInts,b⟩] false [⟨.int,cmpL a b⟩]:=by
 refine fn_enter tabOK mixes Tryz.func113 rfl rfl _ Tryz.ntmps113 _ Tryz.results113 (by simp) fun hwf=>?_
 have ha:a.length<=9223372036854775807:=(hwf ⟨tInts,a⟩ (by simp)).1
 try simp (maxSteps:=9^9) only[go_sem]
 refine CondW_not (fun h=>?_) (fun h=>?_)
 ·have hc:cmpL a b=cmpI a.length b.length:=if_neg (by omega)
  try simp (maxSteps:=9^9) only[go_sem]
  repeat refine And.intro (by first|omega|(constructor<;>omega)|kernel_rfl) ?_
  refine CallW.mk (compare_fn a.length b.length) ?_
  try simp (maxSteps:=9^9) only[go_sem]
  exact hc.symm
 ·have hc:cmpL a b=cmpR a b a.length:=if_pos (by omega)
  try simp (maxSteps:=9^9) only[go_sem]
  refine ⟨by constructor<;>omega,?_⟩
  refine LoopG.intro _ _ _ (fun i:Int=>⟨[(0,.sl .int a),(1,.sl .int b),(5,.sc (.int .i64 i))],[]⟩) (fun i=>-1<=i/\i < a.length/\cmpR a b (i+1).toNat=cmpL a b) (fun i=>(i+1).toNat) (a.length - 1) ?_ ⟨by omega,by omega,by rw [hc]; congr 1; omega⟩ ?_
  ·refine Wk.mk [] ?_
   try simp (maxSteps:=9^9) only[go_sem]
   try (and_intros<;>first|rfl|omega|exact ⟨_,rfl⟩)
  ·rintro i ⟨h1,h2,h3⟩
   try simp (maxSteps:=9^9) only[go_sem]
   refine CondW_dec (fun h4=>?_) (fun h4=>?_)
   ·rw [cmpR_step h4] at h3
    try simp (maxSteps:=9^9) only[go_sem]
    refine ⟨h4,h2,h4,by omega,by kernel_rfl,?_⟩
    refine CondW_not (fun h5=>?_) (fun h5=>?_)
    ·rw [if_neg h5] at h3
     try simp (maxSteps:=9^9) only[go_sem]
     refine ⟨h4,h2,h4,by omega,?_⟩
     repeat refine And.intro (by first|omega|(constructor<;>omega)|kernel_rfl) ?_
     refine CallW.mk (compare_fn (ni a i.toNat) (ni b i.toNat)) ?_
     try simp (maxSteps:=9^9) only[go_sem]
     exact ⟨by kernel_rfl,h3⟩
    ·rw [if_pos h5] at h3
     try simp (maxSteps:=9^9) only[go_sem]
     refine ⟨by constructor<;>omega,LoopK.mk (i - 1) ?_ ⟨by omega,by omega,by rw [<-h3]; congr 1; omega⟩ (by omega)⟩
     refine Wk.mk [] ?_
     try simp (maxSteps:=9^9) only[go_sem]
     try (and_intros<;>first|rfl|omega|exact ⟨_,rfl⟩)
   ·try simp (maxSteps:=9^9) only[go_sem]
    rw [<-h3,show (i+1).toNat=0 by omega]; rfl
end Go.Proofs.YtaflkgjckmfkoaaGreat.DW

namespace Go.Proofs.YtaflkgjckmfkoaaGreat.DW
open Go.RowKit
def trimN (l:List Int):Nat->Nat
 | 0=>0
 | n+1=>if ni l n=0 then trimN l n else n+1
def trimL (l:List Int):List Int:=l.take (trimN l l.length)
theorem trimN_step {l:List Int} {i:Int} (h:0 < i):trimN l i.toNat=if ni l (i - 1).toNat=0 then trimN l (i - 1).toNat else i.toNat:=by
 rw [show i.toNat=(i - 1).toNat+1 by omega]; rfl
theorem trimmed_fn (l:List Int):Fn Tryz.prog 111 [⟨tInts,l⟩] false [⟨tInts,trimL l⟩]:=by
 refine fn_enter tabOK mixes Tryz.func111 rfl rfl _ Tryz.ntmps111 _ Tryz.results111 (by simp) fun hwf=>?_
 have hl:l.length<=9223372036854775807:=(hwf ⟨tInts,l⟩ (by simp)).1
 try simp (maxSteps:=9^9) only[go_sem]
 refine LoopG.intro _ _ _ (fun i:Int=>⟨[(0,.sl .int l),(3,.sc (.int .i64 i))],[]⟩) (fun i=>0<=i/\i<=l.length/\trimN l i.toNat=trimN l l.length) (fun i=>i.toNat) l.length ?_ ⟨by omega,by omega,by congr 1⟩ ?_
 ·refine Wk.mk [] ?_
  try simp (maxSteps:=9^9) only[go_sem]
  try (and_intros<;>first|rfl|omega|exact ⟨_,rfl⟩)
 ·rintro i ⟨h1,h2,h3⟩
  try simp (maxSteps:=9^9) only[go_sem]
  refine GuardW_dec (fun h4=>?_) (fun h4=>?_)
  ·rw [trimN_step h4] at h3
   try simp (maxSteps:=9^9) only[go_sem]
   refine ⟨by constructor<;>omega,by omega,by omega,?_⟩
   refine CondW_dec (fun h5=>?_) (fun h5=>?_)
   ·rw [if_pos h5] at h3
    try simp (maxSteps:=9^9) only[go_sem]
    refine ⟨by constructor<;>omega,LoopK.mk (i - 1) ?_ ⟨by omega,by omega,h3⟩ (by omega)⟩
    refine Wk.mk [] ?_
    try simp (maxSteps:=9^9) only[go_sem]
    try (and_intros<;>first|rfl|omega|exact ⟨_,rfl⟩)
   ·rw [if_neg h5] at h3
    try simp (maxSteps:=9^9) only[go_sem]
    refine ⟨h1,h2,?_⟩
    rw [h3]; rfl
  ·try simp (maxSteps:=9^9) only[go_sem]
   refine ⟨h1,h2,?_⟩
   rw [trimL,<-h3,show i.toNat=0 by omega]; rfl
theorem l02Trim_fn (l:List Int):Fn Tryz.prog 168 [⟨tInts,l⟩] false [⟨tInts,trimL l⟩]:=by
 refine fn_enter tabOK mixes Tryz.func168 rfl rfl _ Tryz.ntmps168 _ Tryz.results168 (by simp) fun hwf=>?_
 have hl:l.length<=9223372036854775807:=(hwf ⟨tInts,l⟩ (by simp)).1
 try simp (maxSteps:=9^9) only[go_sem]
 refine LoopG.intro _ _ _ (fun i:Int=>⟨[(0,.sl .int l),(3,.sc (.int .i64 i))],[]⟩) (fun i=>0<=i/\i<=l.length/\trimN l i.toNat=trimN l l.length) (fun i=>i.toNat) l.length ?_ ⟨by omega,by omega,by congr 1⟩ ?_
 ·refine Wk.mk [] ?_
  try simp (maxSteps:=9^9) only[go_sem]
  try (and_intros<;>first|rfl|omega|exact ⟨_,rfl⟩)
 ·rintro i ⟨h1,h2,h3⟩
  try simp (maxSteps:=9^9) only[go_sem]
  refine GuardW_dec (fun h4=>?_) (fun h4=>?_)
  ·rw [trimN_step h4] at h3
   try simp (maxSteps:=9^9) only[go_sem]
   refine ⟨by constructor<;>omega,by omega,by omega,?_⟩
   refine CondW_dec (fun h5=>?_) (fun h5=>?_)
   ·rw [if_pos h5] at h3
    try simp (maxSteps:=9^9) only[go_sem]
    refine ⟨by constructor<;>omega,LoopK.mk (i - 1) ?_ ⟨by omega,by omega,h3⟩ (by omega)⟩
    refine Wk.mk [] ?_
    try simp (maxSteps:=9^9) only[go_sem]
    try (and_intros<;>first|rfl|omega|exact ⟨_,rfl⟩)
   ·rw [if_neg h5] at h3
    try simp (maxSteps:=9^9) only[go_sem]
    refine ⟨h1,h2,?_⟩
    rw [h3]; rfl
  ·try simp (maxSteps:=9^9) only[go_sem]
   refine ⟨h1,h2,?_⟩
   rw [trimL,<-h3,show i.toNat=0 by omega]; rfl
def natL (n:Nat):List Int:=if h:n=0 then [] else ((n % 1000000000:Nat):Int) :: natL (n / 1000000000)
decreasing_by omega
theorem natL_zero:natL 0=[]:=by rw [natL]; rfl
theorem natL_pos {n:Nat} (h:0 < n):natL n=((n % 1000000000:Nat):Int) :: natL (n / 1000000000):=by rw [natL,dif_neg (by omega)]
theorem natL_len (k n:Nat) (h:n < 1000000000 ^ k):(natL n).length<=k:=by
 induction k generalizing n with
 | zero=>rw [show n=0 by simpa using h,natL_zero]; simp
 | succ k ih =>
  by_cases h0:n=0
  ·subst h0; rw [natL_zero]; simp
  ·rw [natL_pos (by omega)]
   have:=ih (n / 1000000000) (by rw [Nat.div_lt_iff_lt_mul (by omega)]; rwa [Nat.pow_succ] at h)
   simp; omega
theorem natL_len3 {n:Int} (h:n<=9223372036854775808):(natL n.toNat).length<=3:=natL_len 3 _ (by omega)
theorem natL_step {n:Int} (h:0 < n):natL n.toNat=n % 1000000000 :: natL (n / 1000000000).toNat:=by
 rw [natL_pos (by omega),show n.toNat / 1000000000=(n / 1000000000).toNat by omega,show ((n.toNat % 1000000000:Nat):Int)=n % 1000000000 by omega]
theorem specNatOf_fn (n:Int):Fn Tryz.prog 144 [⟨.int,n⟩] true [⟨tInts,natL n.toNat⟩]:=by
 refine fn_enter tabOK mixes Tryz.func144 rfl rfl _ Tryz.ntmps144 _ Tryz.results144 (by simp) fun hwf=>?_
 have hn:I64 n:=hwf ⟨.int,n⟩ (by simp)
 have hl:=natL_len3 (n:=n) (by have:=hn.2; omega)
 try simp (maxSteps:=9^9) only[go_sem]
 refine LoopG.intro _ _ _ (fun x:Int × List Int=>⟨[(0,.sc (.int .i64 x.1)),(3,.row 0 0)],[(0,.row 3 .int 0 true x.2)]⟩) (fun x=>natL n.toNat=x.2++natL x.1.toNat) (fun x=>x.1.toNat) (n,[]) ?_ rfl ?_
 ·refine Wk.mk [] ?_
  try simp (maxSteps:=9^9) only[go_sem]
  try (and_intros<;>first|rfl|omega|exact ⟨_,rfl⟩)
 ·rintro ⟨k,dn⟩ h1
  have hdl:=congrArg List.length h1
  rw [List.length_append] at hdl
  simp only at h1 hdl
  try simp (maxSteps:=9^9) only[go_sem]
  refine CondW_dec (fun h2=>?_) (fun h2=>?_)
  ·rw [natL_step h2] at h1
   try simp (maxSteps:=9^9) only[go_sem]
   refine RemW.pos (by omega) (by decide) ?_
   try simp (maxSteps:=9^9) only[go_sem]
   refine ⟨by omega,by omega,QuoW.pos (by omega) (by decide) ?_⟩
   try simp (maxSteps:=9^9) only[go_sem]
   refine LoopK.mk (k / 1000000000,dn++[k % 1000000000]) ?_ (by simp [h1]) (by simp only; omega)
   refine Wk.mk [] ?_
   try simp (maxSteps:=9^9) only[go_sem]
   try (and_intros<;>first|rfl|omega|exact ⟨_,rfl⟩)
  ·have h3:natL k.toNat=[]:=by rw [show k.toNat=0 by omega,natL_zero]
   rw [h3,List.append_nil] at h1
   try simp (maxSteps:=9^9) only[go_sem]
   exact h1.symm
theorem implNatOf_fn (n:Int):Fn Tryz.prog 70 [⟨.int,n⟩] true [⟨tInts,natL n.toNat⟩]:=by
 refine fn_enter tabOK mixes Tryz.func70 rfl rfl _ Tryz.ntmps70 _ Tryz.results70 (by simp) fun hwf=>?_
 have hn:I64 n:=hwf ⟨.int,n⟩ (by simp)
 have hl:=natL_len3 (n:=n) (by have:=hn.2; omega)
 try simp (maxSteps:=9^9) only[go_sem]
 refine LoopG.intro _ _ _ (fun x:Int × List Int=>⟨[(0,.sc (.int .i64 x.1)),(3,.row 0 0)],[(0,.row 3 .int 0 true x.2)]⟩) (fun x=>natL n.toNat=x.2++natL x.1.toNat) (fun x=>x.1.toNat) (n,[]) ?_ rfl ?_
 ·refine Wk.mk [] ?_
  try simp (maxSteps:=9^9) only[go_sem]
  try (and_intros<;>first|rfl|omega|exact ⟨_,rfl⟩)
 ·rintro ⟨k,dn⟩ h1
  have hdl:=congrArg List.length h1
  rw [List.length_append] at hdl
  simp only at h1 hdl
  try simp (maxSteps:=9^9) only[go_sem]
  refine CondW_dec (fun h2=>?_) (fun h2=>?_)
  ·rw [natL_step h2] at h1
   try simp (maxSteps:=9^9) only[go_sem]
   refine RemW.pos (by omega) (by decide) ?_
   try simp (maxSteps:=9^9) only[go_sem]
   refine ⟨by omega,by omega,QuoW.pos (by omega) (by decide) ?_⟩
   try simp (maxSteps:=9^9) only[go_sem]
   refine LoopK.mk (k / 1000000000,dn++[k % 1000000000]) ?_ (by simp [h1]) (by simp only; omega)
   refine Wk.mk [] ?_
   try simp (maxSteps:=9^9) only[go_sem]
   try (and_intros<;>first|rfl|omega|exact ⟨_,rfl⟩)
  ·have h3:natL k.toNat=[]:=by rw [show k.toNat=0 by omega,natL_zero]
   rw [h3,List.append_nil] at h1
   try simp (maxSteps:=9^9) only[go_sem]
   exact h1.symm
def ixf {t:Ty} (p:t.den->Bool) (l:List t.den):Int:=match l.findIdx? p with|some i=>i|none=>-1
theorem ixf_at {t:Ty} {p:t.den->Bool} {l:List t.den} {i:Nat} (hi:i < l.length) (h:p (nth l i)=true) (hb:∀ j < i,p (nth l j)=false):ixf p l=i:=by
 have:l.findIdx? p=some i:=by
  rw [List.findIdx?_eq_some_iff_getElem]
  refine ⟨hi,by rw [<-nth_lt hi]; exact h,fun j hj=>?_⟩
  rw [<-nth_lt (by omega)]; simp [hb j hj]
 rw [ixf,this]
theorem ixf_none {t:Ty} {p:t.den->Bool} {l:List t.den} (hb:∀ j < l.length,p (nth l j)=false):ixf p l=-1:=by
 have:l.findIdx? p=none:=by
  rw [List.findIdx?_eq_none_iff]
  intro x hx
  obtain ⟨j,hj,rfl⟩:=List.getElem_of_mem hx
  rw [<-nth_lt hj]; exact hb j hj
 rw [ixf,this]
theorem ixf_any {t:Ty} {p:t.den->Bool} {l:List t.den}:decide (0<=ixf p l)=l.any p:=by
 unfold ixf
 cases h:l.findIdx? p with
 | none =>
  rw [List.findIdx?_eq_none_iff] at h
  have:l.any p=false:=by rw [List.any_eq_false]; intro x hx; simp [h x hx]
  rw [this]; rfl
 | some i =>
  rw [List.findIdx?_eq_some_iff_getElem] at h
  obtain ⟨hi,hp,_⟩:=h
  have:l.any p=true:=List.any_eq_true.2 ⟨_,List.getElem_mem hi,hp⟩
  rw [this]; simp
theorem indexFunc_int_fn (F:FuncId) (p:Int->Bool) (hF:∀ x:Int,Fn Tryz.prog F [⟨.int,x⟩] false [⟨.bool,p x⟩]) (l:List Int):Fn Tryz.prog 107 [⟨.slice (.int),l⟩,⟨.cst (.fn F),()⟩] false [⟨.int,ixf (t:=.int) p l⟩]:=by
 refine fn_enter tabOK mixes Tryz.func107 rfl rfl _ Tryz.ntmps107 _ Tryz.results107 (by simp) fun hwf=>?_
 have hl:l.length<=9223372036854775807:=(hwf ⟨.slice (.int),l⟩ (by simp)).1
 try simp (maxSteps:=9^9) only[go_sem]
 refine LoopG.intro _ _ _ (fun i:Int=>⟨[(0,.sl (.int) l),(1,.sc (.func (.func F) #[] #[])),(7,.sc (.int .i64 l.length)),(8,.sc (.int .i64 i))],[]⟩) (fun i=>0<=i/\∀ j < i.toNat,j < l.length->p (nth (t:=.int) l j)=false) (fun i=>(l.length - i).toNat) 0 ?_ ⟨by omega,fun j h=>by simp at h⟩ ?_
 ·refine Wk.mk [] ?_
  try simp (maxSteps:=9^9) only[go_sem]
  try (and_intros<;>first|rfl|omega|exact ⟨_,rfl⟩)
 ·rintro i ⟨h1,h2⟩
  try simp (maxSteps:=9^9) only[go_sem]
  refine CondW_dec (fun h3=>?_) (fun h3=>?_)
  ·try simp (maxSteps:=9^9) only[go_sem]
   refine ⟨h1,h3,?_⟩
   repeat refine And.intro (by first|omega|(constructor<;>omega)|kernel_rfl) ?_
   refine CallW.mk (hF (ni l i.toNat)) ?_
   try simp (maxSteps:=9^9) only[go_sem]
   refine CondW_b (fun h4=>?_) (fun h4=>?_)
   ·try simp (maxSteps:=9^9) only[go_sem]
    exact (ixf_at (by omega) h4 (fun j hj=>h2 j hj (by omega))).symm ▸ (by omega)
   ·try simp (maxSteps:=9^9) only[go_sem]
    refine ⟨by constructor<;>omega,LoopK.mk (i+1) ?_ ⟨by omega,fun j hj hl=>?_⟩ (by omega)⟩
    ·refine Wk.mk [] ?_
     try simp (maxSteps:=9^9) only[go_sem]
     try (and_intros<;>first|rfl|omega|exact ⟨_,rfl⟩)
    ·by_cases hj2:j < i.toNat
     ·exact h2 j hj2 hl
     ·rw [show j=i.toNat by omega]; exact h4
  ·try simp (maxSteps:=9^9) only[go_sem]
   exact (ixf_none fun j hj=>h2 j (by omega) hj).symm
theorem containsFunc_int_fn (F:FuncId) (p:Int->Bool) (hF:∀ x:Int,Fn Tryz.prog F [⟨.int,x⟩] false [⟨.bool,p x⟩]) (l:List Int):Fn Tryz.prog 62 [⟨.slice (.int),l⟩,⟨.cst (.fn F),()⟩] false [⟨.bool,l.any p⟩]:=by
 refine fn_enter tabOK mixes Tryz.func62 rfl rfl _ Tryz.ntmps62 _ Tryz.results62 (by simp) fun hwf=>?_
 try simp (maxSteps:=9^9) only[go_sem]
 repeat refine And.intro (by first|omega|(constructor<;>omega)|kernel_rfl) ?_
 refine CallW.mk (indexFunc_int_fn F p hF l) ?_
 try simp (maxSteps:=9^9) only[go_sem]
 exact ixf_any
theorem l01In_fn (n a b:Int):Fn Tryz.prog 150 [⟨.int,n⟩,⟨.int,a⟩,⟨.int,b⟩] false [⟨.bool,decide (a<=n/\n<=b)⟩]:=by
 refine fn_enter tabOK mixes Tryz.func150 rfl rfl _ Tryz.ntmps150 _ Tryz.results150 (by simp) fun hwf=>?_
 try simp (maxSteps:=9^9) only[go_sem]
 refine GuardW_dec (fun h=>?_) (fun h=>?_)
 ·try simp (maxSteps:=9^9) only[go_sem]
  simp [h]
 ·try simp (maxSteps:=9^9) only[go_sem]
  simp [h]
theorem within_fn (n a b:Int):Fn Tryz.prog 49 [⟨.int,n⟩,⟨.int,a⟩,⟨.int,b⟩] false [⟨.bool,decide (a<=n/\n<=b)⟩]:=by
 refine fn_enter tabOK mixes Tryz.func49 rfl rfl _ Tryz.ntmps49 _ Tryz.results49 (by simp) fun hwf=>?_
 try simp (maxSteps:=9^9) only[go_sem]
 refine GuardW_dec (fun h=>?_) (fun h=>?_)
 ·try simp (maxSteps:=9^9) only[go_sem]
  simp [h]
 ·try simp (maxSteps:=9^9) only[go_sem]
  simp [h]
noncomputable def bdec (p:Prop):Bool:=@decide p (Classical.propDecidable p)
theorem bdec_t {p:Prop} (h:p):bdec p=true:=@decide_eq_true _ (Classical.propDecidable p) h
theorem bdec_f {p:Prop} (h:¬ p):bdec p=false:=@decide_eq_false _ (Classical.propDecidable p) h
def isLb (d:Int):Prop:=0<=d/\d<=999999999
def okNP (l:List Int):Prop:=(∀ d ∈ l,isLb d)/\l.length<=60/\(l.length=0\/ni l (l.length - 1) ≠ 0)
noncomputable def okN (l:List Int):Bool:=bdec (okNP l)
theorem natOkC_fn (x:Int):Fn Tryz.prog 116 [⟨.int,x⟩] false [⟨.bool,!decide (0<=x/\x<=999999999)⟩]:=by
 refine fn_enter tabOK mixes Tryz.func116 rfl rfl _ Tryz.ntmps116 _ Tryz.results116 (by simp) fun hwf=>?_
 try simp (maxSteps:=9^9) only[go_sem]
 repeat refine And.intro (by first|omega|(constructor<;>omega)|kernel_rfl) ?_
 refine CallW.mk (within_fn x 0 999999999) ?_
 try simp (maxSteps:=9^9) only[go_sem]
theorem implNatOk_fn (l:List Int):Fn Tryz.prog 78 [⟨tInts,l⟩] false [⟨.bool,okN l⟩]:=by
 refine fn_enter tabOK mixes Tryz.func78 rfl rfl _ Tryz.ntmps78 _ Tryz.results78 (by simp) fun hwf=>?_
 have hl:l.length<=9223372036854775807:=(hwf ⟨tInts,l⟩ (by simp)).1
 have hany:l.any (fun x=>!decide (0<=x/\x<=999999999))=false->∀ d ∈ l,isLb d:=fun h d hd=>by
  rw [List.any_eq_false] at h
  have:=h d hd
  show 0<=d/\d<=999999999
  simpa using this
 have hany2:l.any (fun x=>!decide (0<=x/\x<=999999999))=true->¬ ∀ d ∈ l,isLb d:=fun h hall=>by
  obtain ⟨d,hd,h⟩:=List.any_eq_true.1 h
  have:=hall d hd
  simp [this.1,this.2] at h
 try simp (maxSteps:=9^9) only[go_sem]
 refine GuardW_decf (fun h=>?_) (fun h=>?_)
 ·try simp (maxSteps:=9^9) only[go_sem]
  repeat refine And.intro (by first|omega|(constructor<;>omega)|kernel_rfl) ?_
  refine CallW.mk (containsFunc_int_fn _ _ natOkC_fn l) ?_
  try simp (maxSteps:=9^9) only[go_sem]
  refine CondW_b (fun h2=>?_) (fun h2=>?_)
  ·try simp (maxSteps:=9^9) only[go_sem]
   exact (bdec_f fun hok=>hany2 h2 hok.1).symm
  ·have hall:=hany h2
   try simp (maxSteps:=9^9) only[go_sem]
   refine GuardW_decf (fun h5=>?_) (fun h5=>?_)
   ·try simp (maxSteps:=9^9) only[go_sem]
    refine ⟨by constructor<;>omega,by omega,by omega,?_⟩
    by_cases h6:ni l (l.length - 1)=0
    ·refine (Eq.trans ?_ (bdec_f fun hok=>(hok.2.2.elim (by omega) fun h=>h h6)).symm)
     rw [show ((l.length:Int) - 1).toNat=l.length - 1 by omega]; simp [h6]
    ·refine (Eq.trans ?_ (bdec_t ⟨hall,by omega,.inr h6⟩).symm)
     rw [show ((l.length:Int) - 1).toNat=l.length - 1 by omega]; simp [h6]
   ·try simp (maxSteps:=9^9) only[go_sem]
    exact (bdec_t ⟨hall,by omega,.inl (by omega)⟩).symm
 ·try simp (maxSteps:=9^9) only[go_sem]
  refine (bdec_f fun hok=>?_).symm
  have:=hok.2.1; omega
end Go.Proofs.YtaflkgjckmfkoaaGreat.DW
