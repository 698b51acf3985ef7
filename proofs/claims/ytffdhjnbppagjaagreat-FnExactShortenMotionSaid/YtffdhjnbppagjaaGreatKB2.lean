/-
  Texts of a proof, one behind another: DwJ, DwL, DwY, DwM, DwN, DwO, DwP, DwQ, DwR, DwT, Br, LwA, Sz, To, Eq, Mark.
-/
import Derived.Laws.Cover3
import Derived.Orders
import Derived.Test.YtffdhjnbppagjaaGreatProg
import Derived.Test.YtffdhjnbppagjaaGreatKB1
set_option linter.all false
namespace Go.Proofs.YtffdhjnbppagjaaGreat.DW
open Go.RowKit
theorem fold_set (off:Nat):∀ (us:List Value) (k:Nat) (C:Array Value),off+k+us.length<=C.size →
  ∀ R,(us.zipIdx k).foldl (fun cs (x:Value × Nat)=>cs.setIfInBounds (off+x.2) x.1) C=R->R.size=C.size/\(∀ j v,us[j]? = some v->R[off+k+j]? = some v)/\∀ i,i < off+k\/off+k+us.length<=i->R[i]? = C[i]?
 | [],k,C,h,R,hR=>by
  subst hR
  exact ⟨rfl,fun j v hj=>by simp at hj,fun i _=>rfl⟩
 | u :: us,k,C,h,R,hR=>by
  simp only [List.zipIdx_cons,List.foldl_cons] at hR
  simp only [List.length_cons] at h
  obtain ⟨h1,h2,h3⟩:=fold_set off us (k+1) (C.setIfInBounds (off+k) u) (by simp; omega) R hR
  refine ⟨by simpa using h1,fun j v hj=>?_,fun i hi=>?_⟩
  ·cases j with
   | zero =>
    simp at hj; subst hj
    rw [h3 _ (.inl (by omega))]
    simp only [Nat.add_zero]
    rw [Array.getElem?_setIfInBounds_self_of_lt (by omega)]
   | succ j =>
    have:=h2 j v (by simpa using hj)
    rw [show off+k+(j+1)=off+(k+1)+j by omega]; exact this
  ·simp only [List.length_cons] at hi
   rw [h3 i (by omega),Array.getElem?_setIfInBounds_ne (by omega)]
theorem fold_set' (off:Nat) (v:Value) (C:Array Value) (h:off+v.cells.size<=C.size) :
  v.cells.zipIdx.foldl (fun cs (x:Value × Nat)=>cs.setIfInBounds (off+x.2) x.1) C=(C.toList.take off++v.cells.toList++C.toList.drop (off+v.cells.toList.length)).toArray:=by
 rw [<-Array.foldl_toList,Array.toList_zipIdx]
 obtain ⟨h1,h2,h3⟩:=fold_set off v.cells.toList 0 C (by simpa using h) _ rfl
 apply Array.toList_inj.1
 rw [List.toList_toArray]
 refine list_put (by simpa using h) (by simpa using h1) (fun j x hj=>?_) (fun i hi=>?_)
 ·rw [Array.getElem?_toList]; exact h2 j x hj
 ·rw [Array.getElem?_toList,Array.getElem?_toList]; exact h3 i (by simpa using hi)
theorem fill_cons (place:Nat->Option (Nat × Nat)) (C:Array Value) (i:Nat) (v:Value) (rest:List (Nat × Value)) (off size:Nat) (hp:place i=some (off,size)) (hs:v.cells.size=size) (hl:off+size<=C.size) :
  Instr.fill place C ((i,v) :: rest)=Instr.fill place (C.toList.take off++v.cells.toList++C.toList.drop (off+v.cells.toList.length)).toArray rest:=by
 rw [Instr.fill,hp]
 simp only
 rw [if_neg (by simp; omega),<-fold_set' off v C (by omega)]
noncomputable def lget (s:Ty) (d:Lst):Option (List s.den):=@dite _ (d.1=s) (Classical.propDecidable _) (fun h=>some (h ▸ d.2)) (fun _=>none)
theorem lget_same (s:Ty) (l:List s.den):lget s ⟨s,l⟩=some l:=by unfold lget; rw [dif_pos rfl]
theorem lget_eq {s:Ty} {d:Lst} {l:List s.den} (h:lget s d=some l):d=⟨s,l⟩:=by
 unfold lget at h
 split at h
 ·rename_i e
  obtain ⟨t,m⟩:=d
  subst e
  injection h with h
  subst h
  rfl
 ·cases h
noncomputable def rdS (lm:Nat->Option Blk) (a:Ty) (v:AV):Option (List a.den) :=
 match v with
 | .sc (.slice none 0 0)=>some []
 | v=>(v.data lm).bind (lget a)
def rdI:List AV->Option Int
 | [.sc (.int .i64 n)]=>some n
 | _=>none
def rdB:List AV->Option Bool
 | [.sc (.bool n)]=>some n
 | _=>none
def rdT:List AV->Option ByteArray
 | [.sc (.string n)]=>some n
 | _=>none
def rdU:List AV->Option Int
 | [.sc (.int .u8 n)]=>some n
 | _=>none
noncomputable def rdX (lm:Nat->Option Blk) (a:Ty):List AV->Option (List a.den)
 | [v]=>rdS lm a v
 | _=>none
noncomputable def rdC (lm:Nat->Option Blk):(t:Ty)->List AV->Option t.den
 | .int,cs=>rdI cs
 | .bool,cs=>rdB cs
 | .str,cs=>rdT cs
 | .u8,cs=>rdU cs
 | .slice a,cs=>rdX lm a cs
 | .prod a b,cs=>match rdC lm a (cs.take a.size),rdC lm b (cs.drop a.size) with
  | some x,some y=>some (x,y)
  | _,_=>none
 | .cst _,_=>none
 | .ext _ _,_=>none
noncomputable def rdV (lm:Nat->Option Blk) (t:Ty) (v:AV):Option t.den :=
 match v with
 | .agg cs=>if t.isAgg=true then rdC lm t cs else none
 | v=>if t.isAgg=true then none else rdC lm t [v]
noncomputable def rdL (lm:Nat->Option Blk) (t:Ty):List AV->Option (List t.den)
 | []=>some []
 | v :: vs=>match rdV lm t v,rdL lm t vs with
  | some x,some l=>some (x :: l)
  | _,_=>none
theorem rdS_is {lm:Nat->Option Blk} {a:Ty} {v:AV} {l:List a.den} (h:rdS lm a v=some l):IsS lm a l v:=by
 unfold rdS at h
 split at h
 ·injection h with h; subst h; exact .inr ⟨rfl,rfl⟩
 ·cases hd:v.data lm with
  | none=>rw [hd] at h; cases h
  | some d=>rw [hd] at h; exact .inl (hd.trans (congrArg some (lget_eq h)))
theorem rdC_is {lm:Nat->Option Blk}:∀ {t:Ty} {cs:List AV} {x:t.den},rdC lm t cs=some x->Is lm t x cs:=by
 intro t
 induction t with
 | prod a b iha ihb =>
  intro cs x h
  simp only [rdC] at h
  split at h
  ·rename_i x1 y1 h1 h2; injection h with h; subst h; exact ⟨iha h1,ihb h2⟩
  ·cases h
 | slice a iha =>
  intro cs x h
  simp only [rdC,rdX] at h
  split at h
  ·exact ⟨_,rfl,rdS_is h⟩
  ·cases h
 | int=>intro cs x h; simp only [rdC,rdI] at h; split at h<;>first|(injection h with h; subst h; rfl)|cases h
 | bool=>intro cs x h; simp only [rdC,rdB] at h; split at h<;>first|(injection h with h; subst h; rfl)|cases h
 | str=>intro cs x h; simp only [rdC,rdT] at h; split at h<;>first|(injection h with h; subst h; rfl)|cases h
 | u8=>intro cs x h; simp only [rdC,rdU] at h; split at h<;>first|(injection h with h; subst h; rfl)|cases h
 | cst f=>intro cs x h; cases h
 | ext e a _=>intro cs x h; cases h
theorem rdV_is {lm:Nat->Option Blk} {t:Ty} {v:AV} {x:t.den} (h:rdV lm t v=some x):IsV lm ⟨t,x⟩ v:=by
 unfold rdV at h
 split at h
 ·split at h
  ·rename_i ha; exact ⟨ha,rdC_is h⟩
  ·cases h
 ·split at h
  ·cases h
  ·rename_i hv ha
   have ha':t.isAgg=false:=by simpa using ha
   cases v with
   | agg cs=>exact absurd rfl (hv cs)
   | _=>exact ⟨ha',rdC_is h⟩
theorem rdL_is {lm:Nat->Option Blk} {t:Ty}:∀ {vs:List AV} {l:List t.den},rdL lm t vs=some l->All2 (fun v x=>IsV lm ⟨t,x⟩ v) vs l
 | [],l,h=>by injection h with h; subst h; trivial
 | v :: vs,l,h=>by
  simp only [rdL] at h
  split at h
  ·rename_i x m h1 h2; injection h with h; subst h; exact ⟨rdV_is h1,rdL_is h2⟩
  ·cases h
def idx:Nat->List (Nat × Operand)->Bool
 | _,[]=>true
 | k,(i,_) :: ps=>i == k && idx (k+1) ps
theorem idx_range:∀ {ps:List (Nat × Operand)} {k:Nat},idx k ps=true->ps.map (·.1)=List.range' k ps.length
 | [],_,_=>rfl
 | (i,_) :: ps,k,h=>by
  simp only [idx,Bool.and_eq_true,beq_iff_eq] at h
  simp only [List.map_cons,List.length_cons,List.range'_succ,h.1,idx_range h.2]
def bts (P:Program) (e:TypeId):Option Nat:=(P.info? e).map (·.bytes)
section
variable (P:Program) (T:TypeId->Option Ty) (lt:Nat->Option AV) (lm:Nat->Option Blk) (nx:Nat) (K:Eff->Prop)
def aBuildSlice (ty:TypeId) (len:Nat) (parts:Array (Nat × Operand)):Prop :=
 match P.underlying ty with
 | some (.slice e) =>
  match T e,evs lt (parts.toList.map (·.2)) with
  | some t,some vs =>
   idx 0 parts.toList=true/\parts.toList.length=len/\len * t.size<=16777216/\vs.all AV.ok=true ∧
   match rdL (lmF lm (vs.flatMap AV.rows) false) t vs with
   | some l=>K ⟨.row nx 0,(nx,.row e t 0 (t.flat || ownV lm vs) l) :: frzU lm (vs.flatMap AV.rows),vs.flatMap AV.rows⟩
   | none=>False
  | _,_=>False
 | _=>False
def aAppend (ty:TypeId) (x y:Operand):Prop :=
 match P.underlying ty with
 | some (.slice e) =>
  match T e,bts P e,ev lt x,ev lt y with
  | some t,some i,some (.row k ver),some v =>
   match lm k,v.data lm with
   | some (.row e' s vv l0 l),some d =>
    match lget s d with
    | some m=>e'=e/\vv=ver/\k ∉ v.rows/\s.size=t.size/\(l.length+m.length) * i<=140737488355328/\l.length+m.length<=9223372036854775807 ∧
     K ⟨.row k (ver+1),(k,.row e s (ver+1) (s.flat || (!s.flat && l0 && OwnL lm v)) (l++m)) :: (if (!s.flat && l0 && OwnL lm v)=true then frzU lm v.rows else []),k :: v.rows⟩
    | none=>False
   | _,_=>False
  | some t,some i,some (.sc (.slice none 0 0)),some v =>
   match v.data lm with
   | some d =>
    match lget t d with
    | some m=>m.length * i<=140737488355328/\m.length<=9223372036854775807/\K ⟨.row nx 0,[(nx,.row e t 0 t.flat m)],v.rows⟩
    | none=>False
   | none=>False
  | _,_,_,_=>False
 | _=>False
def aMakeSlice (ty:TypeId) (x y:Operand):Prop :=
 match P.underlying ty with
 | some (.slice e) =>
  match T e,bts P e,ev lt x,ev lt y with
  | some t,some i,some (.sc (.int .i64 n)),some (.sc (.int .i64 m))=>0<=n/\n<=m/\(i:Int) * m<=281474976710656/\K ⟨.row nx 0,[(nx,.row e t 0 true (List.replicate n.toNat t.zero))],[]⟩
  | _,_,_,_=>False
 | _=>False
def evo (x:Option Operand) (z:Int):Option Int :=
 match x with
 | none=>some z
 | some x=>match ev lt x with
  | some (.sc (.int .i64 n))=>some n
  | _=>none
def SlcW (s:Ty) (l:List s.den) (a b:Int):AV->Prop
 | .row k ver=>K ⟨.sl s ((l.take b.toNat).drop a.toNat),frzU lm [k],[k]⟩\/(a=0/\∃ (e:TypeId) (o:Bool),lm k=some (.row e s ver o l)/\K ⟨.row k (ver+1),[(k,.row e s (ver+1) s.flat (l.take b.toNat))],[k]⟩)
 | v=>K ⟨.sl s ((l.take b.toNat).drop a.toNat),frzU lm v.rows,v.rows⟩
def aSlice (ty:TypeId) (x:Operand) (lo hi mx:Option Operand):Prop :=
 match P.underlying ty,ev lt x with
 | some (.slice e),some v =>
  match T e,v.data lm with
  | some t,some ⟨s,l⟩ =>
   match evo lt lo 0,evo lt hi l.length with
   | some a,some b=>mx=none/\t.size=s.size/\0<=a/\a<=b/\b<=l.length/\SlcW lm K s l a b v
   | _,_=>False
  | _,_=>False
 | _,_=>False
def aStoreRow (ty:TypeId) (x y:Operand):Prop :=
 match T ty,ev lt x,ev lt y with
 | some t,some (.elm k ver i off),some v =>
  match lm k with
  | some (.row e s vv oo l)=>off=0/\vv=ver/\s.size=t.size/\i < l.length/\v.ok=true/\k ∉ v.rows ∧
   match rdC (lmF lm v.rows false) s (cellsOf v) with
   | some x'=>K ⟨.junk,(k,.row e s ver (s.flat || (oo && ownV lm [v])) (l.set i x')) :: frzU lm v.rows,k :: v.rows⟩
   | none=>False
  | _=>False
 | _,_,_=>False
def aMin (xs:Array Operand):Prop :=
 match evs lt xs.toList with
 | some [.sc (.int .i64 a),.sc (.int .i64 b)]=>K (.val (.sc (.int .i64 (min a b))))
 | _=>False
def aMax (xs:Array Operand):Prop :=
 match evs lt xs.toList with
 | some [.sc (.int .i64 a),.sc (.int .i64 b)]=>K (.val (.sc (.int .i64 (max a b))))
 | _=>False
end
section
variable {P:Program} {T:TypeId->Option Ty} {c:Cx} {lt:Nat->Option AV} {lm:Nat->Option Blk} {nx:Nat} {K:Eff->Prop} {o:Oper}
theorem evs_all {σ:St} {Γ:Asg} {a:Act} {w:World} (hs:Sim c σ Γ a w) (hl:∀ t ∈ opnds o,look σ.tmps t=lt t) {xs:List Operand} {vs:List AV} (hx:∀ x ∈ xs,x ∈ o.op.operands.toList) (h:evs lt xs=some vs) (hok:vs.all AV.ok=true):All2 (fun v x=>ARep c σ.mem Γ w v (a.eval x)) vs xs :=
 evs_rep hs (fun x hxm t e=>hl t (mem_opnds (hx x hxm) e)) h hok
def plF (T:TypeId->Option Ty) (f:Field):Nat × Nat:=(f.offset,((T f.type).map Ty.size).getD 0)
theorem fillA_ok (hT:TabOK P T) {fs:Array Field} {σ:St} {Γ:Asg} {a:Act} {w:World} (hs:Sim c σ Γ a w):∀ {parts:List (Nat × Operand)} {cs cs':List AV} {us:List Value},(∀ p ∈ parts,∀ t,p.2=.tmp t->look σ.tmps t=lt t) →
  fillA T lt fs cs parts=some cs'->All2 (CRep c σ.mem Γ w) cs us->∃ us':List Value,Instr.fill (fun i=>(fs.map (plF T))[i]?) us.toArray (parts.map fun p=>(p.1,a.eval p.2))=some us'.toArray/\All2 (CRep c σ.mem Γ w) cs' us'
 | [],cs,cs',us,_,h,hc=>by injection h with h; subst h; exact ⟨us,rfl,hc⟩
 | (i,x) :: parts,cs,cs',us,hl,h,hc=>by
  simp only [fillA] at h
  split at h
  ·rename_i fd v hfd hv
   split at h
   ·rename_i ft hft
    split at h
    ·rename_i hcond
     obtain ⟨hok,h1,h2⟩:=hcond
     have hr:=(ev_rep hs (hl (i,x) List.mem_cons_self) hv).cells hok
     have hlr:=hr.len
     have hlc:=hc.len
     obtain ⟨us',h3,h4⟩:=fillA_ok hT hs (fun p hp=>hl p (List.mem_cons_of_mem _ hp)) h (((hc.take fd.offset).app hr).app (hc.drop (fd.offset+(cellsOf v).length)))
     refine ⟨us',?_,h4⟩
     simp only [Array.length_toList] at hlr
     rw [List.map_cons,fill_cons _ _ _ _ _ fd.offset ft.size (by simp [plF,hfd,hft]) (by simp only; omega) (by simp; omega)]
     simp only [Array.length_toList,List.toList_toArray]
     rw [<-hlr]; exact h3
    ·cases h
   ·cases h
  ·cases h
theorem mapM_places (hT:TabOK P T) {w:World}:∀ (fs:List Field),fs.all (fun fd=>(T fd.type).isSome)=true →
  (fs.mapM fun (f:Field)=>(do pure (f.offset,<-sizeOf f.type):Sem (Nat × Nat))).run P w=.ok (fs.map (plF T)) w
 | [],_=>rfl
 | f :: fs,h=>by
  simp only [List.all_cons,Bool.and_eq_true] at h
  obtain ⟨ft,hft⟩:=Option.isSome_iff_exists.1 h.1
  have ih:=mapM_places hT (w:=w) fs h.2
  simp only [List.mapM_cons,Sem.run_bind,(hT _ _ hft).sizeOf,Result.andThen_ok,Sem.run_pure,ih,List.map_cons,plF,hft,Option.map_some,Option.getD_some]
theorem aBuild_ok (hT:TabOK P T) {ty:TypeId} {parts:Array (Nat × Operand)} (ho:o.op=.build ty parts) (h:aBuild P T lt K ty parts):∃ e,K e/\SOK P c lt lm nx o e:=by
 unfold aBuild at h
 split at h
 ·rename_i t fs ht hu
  obtain ⟨hall,h⟩:=h
  split at h
  ·rename_i cs hcs
   refine ⟨_,h,SOK.pure fun σ Γ a w hs hl _=>?_⟩
   have hz:=zcl_rep (c:=c) (M:=σ.mem) (Γ:=Γ) (w:=w) t
   obtain ⟨us',h1,h2⟩:=fillA_ok hT hs (fun p hp t' e=>hl t' (mem_opnds (x:=p.2) (by simp only [ho,Op.operands]; exact List.mem_map.2 ⟨p,hp,rfl⟩) e)) hcs hz
   refine ⟨.agg us'.toArray,?_,us',rfl,h2⟩
   have hm:=mapM_places hT (w:=w) fs.toList hall
   have hm2:(fs.mapM fun (f:Field)=>(do pure (f.offset,<-sizeOf f.type):Sem (Nat × Nat))).run P w=.ok (fs.map (plF T)) w:=by
    obtain ⟨l⟩:=fs
    rw [List.mapM_toArray,map_eq_pure_bind,Sem.run_bind,hm]
    simp
   have hz2:t.zv.cells=t.zc.toArray:=zv_cells t
   have h1':Instr.fill (fun i=>(fs.map (plF T))[i]?) t.zc.toArray ((parts.map fun x=>(x.1,a.eval x.2)).toList)=some us'.toArray:=by rw [Array.toList_map]; exact h1
   simp only [execOp,ho,Instr.build,Sem.run_bind,(hT _ _ ht).zero,Result.andThen_ok,run_underlying hu,hm2,hz2,h1',Sem.run_pure]
  ·exact h.elim
 ·exact h.elim
theorem frzU_none {ks:List Nat}:∀ {lm:Nat->Option Blk} {k:Nat},lm k=none->look (frzU lm ks) k=none:=by
 induction ks with
 | nil=>intros; rfl
 | cons j ks ih =>
  intro lm k h
  simp only [frzU]
  split
  ·rename_i B hB
   by_cases hkj:k=j
   ·subst hkj; rw [h] at hB; cases hB
   ·rw [look_app,ih (by simp only [if_neg hkj]; exact h),look_ne _ _ hkj]; rfl
  ·exact ih h
theorem fill_range {size:Nat} (hs:0 < size):∀ (us:List Value) (k:Nat) (C:Array Value),(∀ u ∈ us,u.cells.size=size)->C.size=(k+us.length) * size →
  Instr.fill (fun i=>some (i * size,size)) C ((us.zipIdx k).map fun x=>(x.2,x.1))=some (C.toList.take (k * size)++(us.map fun u=>u.cells.toList).flatten).toArray
 | [],k,C,_,hC=>by
  simp only [List.length_nil,Nat.add_zero] at hC
  simp only [List.zipIdx_nil,List.map_nil,Instr.fill,List.flatten_nil,List.append_nil]
  rw [List.take_of_length_le (by simp [hC])]
 | u :: us,k,C,hu,hC=>by
  have h1:=hu u List.mem_cons_self
  simp only [List.length_cons] at hC
  have e1:(k+(us.length+1)) * size=k * size+size+us.length * size:=by rw [Nat.add_mul,Nat.succ_mul]; omega
  rw [e1] at hC
  rw [List.zipIdx_cons,List.map_cons,fill_cons _ _ _ _ _ (k * size) size rfl h1 (by omega),fill_range hs us (k+1) _ (fun x hx=>hu x (List.mem_cons_of_mem _ hx))
   (by simp only [List.size_toArray,List.length_append,List.length_take,List.length_drop,Array.length_toList]; rw [Nat.add_mul,Nat.succ_mul]; omega)]
  congr 2
  have e2:(C.toList.take (k * size)++u.cells.toList++C.toList.drop (k * size+u.cells.toList.length)).take ((k+1) * size)=C.toList.take (k * size)++u.cells.toList:=by
   refine List.take_left' ?_
   simp only [List.length_append,List.length_take,Array.length_toList]
   rw [Nat.succ_mul]; omega
  rw [List.toList_toArray,e2,List.map_cons,List.flatten_cons,List.append_assoc]
theorem pk_cells {t:Ty} {u:Value} {cs:List Value} (h:pk t u cs) (h1:∀ v ∈ cs,v.oneCell'=true):u.cells.toList=cs:=by
 rcases h with ⟨_,rfl⟩|⟨_,rfl⟩
 ·rfl
 ·have:=h1 u (by simp)
  cases u<;>first|rfl|cases this
theorem all2_rows {t:Ty} {w:World} {G:Nat->Prop}:∀ {us:List Value} {l:List t.den},All2 (fun u x=>∃ fp,DRep w u ⟨t,x⟩ fp/\∀ b ∈ fp,G b) us l->∃ fps,RowsOf t.rp w l (us.map fun u=>u.cells.toList) fps/\∀ b ∈ fps.flatten,G b
 | [],[],_=>⟨[],⟨rfl,rfl,fun i x h=>by simp at h⟩,fun b hb=>by simp at hb⟩
 | u :: us,x :: l,⟨⟨fp,⟨cs,hp,hr⟩,hg⟩,h2⟩=>by
  obtain ⟨fps,⟨r1,r2,r3⟩,hgs⟩:=all2_rows h2
  refine ⟨fp :: fps,⟨by simpa using r1,by simpa using r2,fun i y hy=>?_⟩,fun b hb=>?_⟩
  ·cases i with
   | zero =>
    simp at hy; subst hy
    exact ⟨cs,fp,by simp [pk_cells hp (t.rp.one hr)],rfl,hr⟩
   | succ i=>simpa using r3 i y (by simpa using hy)
  ·rw [List.flatten_cons,List.mem_append] at hb
   exact hb.elim (hg b) (hgs b)
 | [],_ :: _,h=>h.elim
 | _ :: _,[],h=>h.elim
theorem all2_map {α β γ:Type} {R:α->β->Prop} {R':α->γ->Prop} {f:β->γ}:∀ {l:List α} {m:List β},(∀ a b,R a b->R' a (f b))->All2 R l m->All2 R' l (m.map f)
 | [],[],_,_=>trivial
 | _ :: _,_ :: _,h,⟨h1,h2⟩=>⟨h _ _ h1,all2_map h h2⟩
 | [],_ :: _,_,h=>h.elim
 | _ :: _,[],_,h=>h.elim
theorem all2_join {α β γ:Type} {R:α->β->Prop} {R':α->γ->Prop} {Q:β->γ->Prop}:∀ {l:List α} {m:List β} {n:List γ},(∀ a b c,a ∈ l->R a b->R' a c->Q b c)->All2 R l m->All2 R' l n->All2 Q m n
 | [],[],[],_,_,_=>trivial
 | a :: _,b :: _,c :: _,h,⟨h1,h2⟩,⟨h3,h4⟩=>⟨h _ _ _ List.mem_cons_self h1 h3,all2_join (fun a b c ha=>h a b c (List.mem_cons_of_mem _ ha)) h2 h4⟩
 | [],_ :: _,_,_,h,_=>h.elim
 | _ :: _,[],_,_,h,_=>h.elim
 | [],[],_ :: _,_,_,h=>h.elim
 | _ :: _,_ :: _,[],_,_,h=>h.elim
theorem flat_rows {t:Ty} {w:World} {l:List t.den} {css:List (List Value)} {fps:List (List Nat)} (hf:t.flat=true) (h:RowsOf t.rp w l css fps):fps.flatten=[]:=by
 refine List.flatten_eq_nil_iff.2 fun f hfm=>?_
 obtain ⟨i,hi,rfl⟩:=List.getElem_of_mem hfm
 obtain ⟨cs,f,_,h2,h3⟩:=h.2.2 i (l[i]'(by have:=h.2.1; omega)) (List.getElem?_eq_getElem (by have:=h.2.1; omega))
 rw [List.getElem?_eq_getElem hi] at h2
 injection h2 with h2
 rw [h2]; exact flat_rep hf h3
theorem aBuildSlice_ok (hT:TabOK P T) (hnx:∀ k,nx<=k->lm k=none) {ty:TypeId} {len:Nat} {parts:Array (Nat × Operand)} (ho:o.op=.buildSlice ty len parts) (h:aBuildSlice P T lt lm nx K ty len parts):∃ e,K e/\SOK P c lt lm nx o e:=by
 unfold aBuildSlice at h
 split at h
 ·rename_i e hu
  split at h
  ·rename_i t vs ht hvs
   obtain ⟨hix0,hixl,hlen,hok,h⟩:=h
   split at h
   rotate_left
   ·exact h.elim
   rename_i l hl3
   have hl2:=rdL_is hl3
   have hK:=h
   have hix:parts.toList.map (·.1)=List.range len:=by rw [idx_range hix0,hixl,List.range_eq_range']
   refine ⟨_,hK,fun p hp=>?_,fun σ Γ a w hs hl hm hn hd K' Q hK'=>?_⟩
   ·rcases List.mem_cons.1 hp with rfl|hp
    ·exact .inl (Nat.le_refl _)
    ·exact .inr (frzU_mem hp)
   have hnone:look σ.mem nx=none:=by
    by_cases hin:nx ∈ vs.flatMap AV.rows
    ·rw [hm nx hin]; exact hnx nx (Nat.le_refl _)
    ·exact hn (nx,_) List.mem_cons_self hin
   have hf':=hs.frz (ks:=vs.flatMap AV.rows)
   have hcongr:frzU (look σ.mem) (vs.flatMap AV.rows)=frzU lm (vs.flatMap AV.rows):=frzU_congr fun k hk=>hm k hk
   rw [hcongr] at hf'
   have hrows:∀ v ∈ vs,∀ k ∈ v.rows,k ∈ vs.flatMap AV.rows:=fun v hv k hk=>List.mem_flatMap.2 ⟨v,hv,hk⟩
   have hv:=evs_all hf' hl (xs:=parts.toList.map (·.2)) (fun x hx=>by
    obtain ⟨p,hp,rfl⟩:=List.mem_map.1 hx
    simp only [ho,Op.operands]; exact List.mem_map.2 ⟨p,hp,rfl⟩) hvs hok
   have hv2:=all2_map (f:=a.eval) (R':=fun v u=>ARep c (frzU lm (vs.flatMap AV.rows)++σ.mem) Γ w v u) (fun _ _ h=>h) hv
   have hdr:All2 (fun u x=>∃ fp,DRep w u ⟨t,x⟩ fp/\∀ b ∈ fp,Gd c (frzU lm (vs.flatMap AV.rows)++σ.mem) Γ b) ((parts.toList.map (·.2)).map a.eval) l:=by
    refine all2_join (fun v u x hvm hvr hi=>?_) hv2 hl2
    have hi:IsV (fun j=>(look (frzU lm (vs.flatMap AV.rows)) j).or (lm j)) ⟨t,x⟩ v:=hi
    obtain ⟨fp,h1,_,h3⟩:=hf'.isVRep hvr (IsV_congr (fun k hk=>by rw [look_app,hm k (hrows v hvm k hk)]) hi)
    refine ⟨fp,h1,h3 fun k hk e t v' o' l hrow=>?_⟩
    rw [<-hcongr] at hrow
    exact (frz_no hrow).1 (hrows v hvm k hk)
   have hcore:∃ fps,RowsOf t.rp w l (((parts.toList.map (·.2)).map a.eval).map fun u=>u.cells.toList) fps/\(∀ b ∈ fps.flatten,Gd c (frzU lm (vs.flatMap AV.rows)++σ.mem) Γ b) ∧
     ((t.flat || ownV lm vs)=true->OwnFp c.base w fps.flatten/\∀ b ∈ fps.flatten,∀ j B,look (frzU lm (vs.flatMap AV.rows)++σ.mem) j=some B->b ∉ B.ofp Γ j):=by
    by_cases hov:ownV lm vs=true
    ·have hv0:=evs_all hs hl (xs:=parts.toList.map (·.2)) (fun x hx=>by
      obtain ⟨p,hp,rfl⟩:=List.mem_map.1 hx
      simp only [ho,Op.operands]; exact List.mem_map.2 ⟨p,hp,rfl⟩) hvs hok
     have hv1:=all2_map (f:=a.eval) (R':=fun v u=>ARep c σ.mem Γ w v u) (fun _ _ h=>h) hv0
     rw [<-ownV_congr hok (fun k hk=>hm k hk)] at hov
     have hov2:=hov
     simp only [ownV,Bool.and_eq_true,decide_eq_true_eq] at hov2
     have hi1:All2 (fun v x=>IsV (look σ.mem) ⟨t,x⟩ v) vs l:=hl2.mono fun v x hv hi=>IsV_congr (fun k hk=>hm k (hrows v hv k hk)) (IsV_data (fun u=>(data_lmF lm _ false u).symm) hi)
     obtain ⟨fps,r1,r2,r3⟩:=take_list hs hv1 hok hi1 hov2.1 hov2.2
     have hfree:∀ b ∈ fps.flatten,∀ j B,look (frzU lm (vs.flatMap AV.rows)++σ.mem) j=some B->¬ B.mut Γ j b/\b ∉ B.ofp Γ j:=by
      intro b hb j B hj
      obtain ⟨k,hk,hh,hlv⟩:=r3 b hb
      obtain ⟨v,hv,hkv⟩:=List.mem_flatMap.1 hk
      rw [rows_cells (List.all_eq_true.1 hok v hv)] at hkv
      rw [<-hcongr] at hj
      exact frz_free hs (hrows v hv k hkv) hlv hh hj
     exact ⟨fps,r1,fun b hb=>⟨.inr (r2.2 b hb).1,fun ⟨j,B,hj,hmu⟩=>(hfree b hb j B hj).1 hmu⟩,fun _=>⟨r2,fun b hb j B hj=>(hfree b hb j B hj).2⟩⟩
    ·obtain ⟨fps,hrw,hgd⟩:=all2_rows hdr
     refine ⟨fps,hrw,hgd,fun hfl=>?_⟩
     have hfl':t.flat=true:=by simpa [hov] using hfl
     rw [flat_rows hfl' hrw]; exact ⟨ownFp_nil _ _,fun b hb=>by cases hb⟩
   obtain ⟨fps,hrw,hgd,hown⟩:=hcore
   have hll:l.length=len:=by
    have h1:=hdr.len
    have h2:=congrArg List.length hix
    simp at h1 h2; omega
   have hp0:=t.pos
   have hszu:∀ u ∈ (parts.toList.map (·.2)).map a.eval,u.cells.size=t.size:=by
    intro u hu
    have:=hrw.len u.cells.toList (List.mem_map.2 ⟨u,hu,rfl⟩)
    rw [t.rp_size] at this; simpa using this
   have hrun:(execOp a.eval o).run P w=.ok (.value (.slice (some ⟨w.heap.size,0,none⟩) len len)) (w.alloc (.cells (((parts.toList.map (·.2)).map a.eval).map fun u=>u.cells.toList).flatten.toArray e)):=by
    have hfill:=fill_range (size:=t.size) (by rw [<-t.rp_size]; exact hp0) ((parts.toList.map (·.2)).map a.eval) 0 ((Array.range (len * t.size)).map (t.zv.cells[· % t.zv.cells.size]!)) hszu (by
     have h2:=congrArg List.length hix
     simp at h2; simp [h2])
    have hparts:(((parts.toList.map (·.2)).map a.eval).zipIdx 0).map (fun x=>(x.2,x.1))=(parts.map fun x=>(x.1,a.eval x.2)).toList:=by
     rw [Array.toList_map]
     apply List.ext_getElem?
     intro i
     rw [List.getElem?_map,List.getElem?_zipIdx,List.getElem?_map,List.getElem?_map,List.getElem?_map]
     cases hpi:parts.toList[i]? with
     | none=>rfl
     | some p =>
      have h2:(parts.toList.map (·.1))[i]? = some p.1:=by rw [List.getElem?_map,hpi]; rfl
      rw [hix] at h2
      have h3:=List.getElem?_eq_some_iff.1 h2
      obtain ⟨h3,h4⟩:=h3
      rw [List.getElem_range] at h4
      simp [h4]
    rw [hparts] at hfill
    simp only [Nat.zero_mul,List.take_zero,List.nil_append] at hfill
    have hsz:=(hT e t ht).sizeOf
    have hzv:=(hT e t ht).zero
    by_cases h0:len * t.size=0
    ·have hr0:∀ f:Nat->Value,(Array.range (len * t.size)).map f=#[]:=fun f=>Array.eq_empty_of_size_eq_zero (by simp only [Array.size_map,Array.size_range]; exact h0)
     have h24:¬ len * t.size > 2 ^ 24:=by omega
     rw [hr0] at hfill
     simp only [execOp,ho,Instr.buildSlice,Sem.run_bind,run_underlying hu,Result.andThen_ok,hsz,if_pos h0,if_neg h24,Sem.run_pure,hr0]
     rw [hfill]
     simp [newRow]
    ·have h24:¬ len * t.size > 2 ^ 24:=by omega
     simp only [execOp,ho,Instr.buildSlice,Sem.run_bind,run_underlying hu,Result.andThen_ok,hsz,h0,if_false,h24,hzv,Sem.run_pure]
     rw [hfill]
     simp [newRow]
   have hgf:=growF_new (base:=c.base) (e:=e) hs.hb hrw (by simp only [maxLen]; have:len<=len * t.size:=Nat.le_mul_of_pos_right _ (by rw [<-t.rp_size]; exact hp0); omega) [] len (by omega) (by simp only [maxLen]; have:len<=len * t.size:=Nat.le_mul_of_pos_right _ (by rw [<-t.rp_size]; exact hp0); omega) (by rw [hll]; simp)
   rw [List.append_nil,hll] at hgf
   have hnone':look (frzU lm (vs.flatMap AV.rows)++σ.mem) nx=none:=by rw [look_app,frzU_none (hnx nx (Nat.le_refl _)),hnone]; rfl
   have hflt:∀ b ∈ fps.flatten,b < w.heap.size:=by
    intro b hb
    obtain ⟨f,hf,hbf⟩:=List.mem_flatten.1 hb
    obtain ⟨i,hi,rfl⟩:=List.getElem_of_mem hf
    obtain ⟨cs,f',_,h2,h3⟩:=hrw.2.2 i (l[i]'(by have:=hrw.2.1; omega)) (List.getElem?_eq_getElem (by have:=hrw.2.1; omega))
    rw [List.getElem?_eq_getElem hi] at h2
    injection h2 with h2
    rw [h2] at hbf
    exact t.rp.lt h3 b hbf
   have hs2:=hf'.newRow (k:=nx) (o:=t.flat || ownV lm vs) hnone' (below_alloc w _) hgf (fun b hb=>by injection hb with hb; subst hb; exact Nat.le_refl _) (fun b hb=>.inr ⟨hflt b hb,hgd b hb⟩)
    (fun hfl=>⟨ownFp_frame (hown hfl).1 fun b hb=>(below_alloc w _).block b (hflt b hb),(hown hfl).2⟩)
   refine wp_value hrun (hK' (Γ.setR nx (.slice (some ⟨w.heap.size,0,none⟩) len len) fps.flatten) _ _ ?_)
   have h4:=hs2.put (d:=o.dst) (v:=.row nx 0) (u:=.slice (some ⟨w.heap.size,0,none⟩) len len) ⟨rfl,_,look_self ..,Nat.le_refl _,fun _=>by rw [Asg.setR_hd]⟩ (fun x hx=>hd x hx)
   unfold St.app
   cases hdst:o.dst<;>simp only [hdst,St.put] at h4 ⊢<;>exact h4
  ·exact h.elim
 ·exact h.elim
end
end Go.Proofs.YtffdhjnbppagjaaGreat.DW

namespace Go.Proofs.YtffdhjnbppagjaaGreat.DW
open Go.RowKit
section
variable {P:Program} {T:TypeId->Option Ty} {c:Cx} {lt:Nat->Option AV} {lm:Nat->Option Blk} {nx:Nat} {K:Eff->Prop} {o:Oper}
theorem growF_rows {t:Ty} {base:Nat} {w:World} {e:TypeId} {v:Value} {l:List t.den} {fps:List (List Nat)} (h:GrowF t.rp base w e v l fps) :
  ∃ ad cc css,v=.slice ad l.length cc/\RowsOf t.rp w l css fps/\(ad=none->l=[])/\∀ a,ad=some a->∀ j d,css.flatten[j]? = some d->w.cell? (a.add j)=some d:=by
 obtain ⟨xs,ho,hfl,he⟩:=h
 have hex:∀ i,i < l.length->∃ cs:List Value,∀ x,l[i]? = some x->∃ f,fps[i]? = some f/\t.rp.rep w cs x f/\∀ j d,cs[j]? = some d->xs[i * t.rp.size+j]? = some d:=by
  intro i hi
  obtain ⟨f,cs,h1,h2,h3⟩:=he i l[i] (List.getElem?_eq_getElem hi)
  refine ⟨cs,fun x hx=>?_⟩
  rw [List.getElem?_eq_getElem hi] at hx
  injection hx with hx
  subst hx
  exact ⟨f,h1,h2,h3⟩
 obtain ⟨css,hcl,hcs⟩:=exList l.length hex
 have hrows:RowsOf t.rp w l css fps:=by
  refine ⟨hcl,hfl,fun i x hx=>?_⟩
  have hi:=(List.getElem?_eq_some_iff.1 hx).1
  have hc:css[i]? = some (css[i]'(by omega)):=List.getElem?_eq_getElem (by omega)
  obtain ⟨f,h1,h2,_⟩:=hcs i _ hc x hx
  exact ⟨_,f,hc,h1,h2⟩
 rcases ho.2 with ⟨hn,h0⟩|⟨g,cap,cur,hv,hbg,hg',h1',h2',h3',h4'⟩
 ·have:l=[]:=List.eq_nil_of_length_eq_zero h0
  subst this
  exact ⟨none,0,css,by rw [hn]; rfl,hrows,fun _=>rfl,fun a ha=>by cases ha⟩
 ·refine ⟨_,cap,css,hv,hrows,(fun hn=>by cases hn),fun a ha j d hd=>?_⟩
  injection ha with ha
  subst ha
  obtain ⟨cs,hc,hd⟩:=flat_back t.pos hrows.len hd
  have hi:j / t.rp.size < l.length:=by have:=(List.getElem?_eq_some_iff.1 hc).1; omega
  obtain ⟨f,_,_,h3⟩:=hcs _ cs hc _ (List.getElem?_eq_getElem hi)
  have:=h3 _ d hd
  rw [show j / t.rp.size * t.rp.size+j % t.rp.size=j by rw [Nat.mul_comm]; exact Nat.div_add_mod j _] at this
  rw [addr_add,Nat.zero_add,cell_of_row w g _ cur _ (0,0) hg',<-Array.getElem?_toList]
  rw [<-h4',List.getElem?_take] at this
  split at this
  ·exact this
  ·cases this
theorem data_rows {σ:St} {Γ:Asg} {a:Act} {w:World} (hs:Sim c σ Γ a w) {v:AV} {u:Value} {t:Ty} {l:List t.den} (hv:VRep c σ.mem Γ w v u) (hm:∀ k ∈ v.rows,look σ.mem k=lm k) (hd:v.data lm=some ⟨t,l⟩) :
  ∃ ad cc css fps,u=.slice ad l.length cc/\RowsOf t.rp w l css fps/\(∀ b ∈ fps.flatten,Gd c σ.mem Γ b)/\(ad=none->l=[])/\∀ a,ad=some a->∀ j d,css.flatten[j]? = some d->w.cell? (a.add j)=some d:=by
 by_cases hrow:∃ k ver e v' o l',v=.row k ver/\look σ.mem k=some (.row e t v' o l')
 ·obtain ⟨k,ver,e,v',o',l',rfl,hk⟩:=hrow
  have hd':=data_congr' hm hd
  simp only [AV.data,hk,Option.bind_some,Blk.data] at hd'
  split at hd'
  ·rename_i hvv
   injection hd' with hd'; injection hd' with _ d2
   obtain rfl:=d2
   obtain ⟨fps,hg,hf,hgd,_⟩:=hs.mm k _ hk
   obtain ⟨_,B,hB,hbh⟩:=hv
   rw [hk] at hB; injection hB with hB; subst hB
   rw [hbh.2 hvv]
   obtain ⟨ad,cc,css,h1,h2,h3,h4⟩:=growF_rows hg
   exact ⟨ad,cc,css,fps,h1,h2,fun b hb=>hgd b (hf ▸ hb),h3,h4⟩
  ·cases hd'
 ·obtain ⟨fp,hr,_,hg⟩:=data_rep hs hv hm hd
  obtain ⟨ad,cc,css,fps,h1,h2,h3,h4,h5⟩:=slice_rows hr
  refine ⟨ad,cc,css,fps,h1,h2,fun b hb=>hg (fun k ver e e' t' v' o' l' hk=>?_) b (h3 b hb),h4,h5⟩
  subst e
  have hd':=data_congr' hm hd
  have hd2:=hd'
  simp only [AV.data,hk,Option.bind_some,Blk.data] at hd2
  split at hd2
  ·injection hd2 with hd2; injection hd2 with d1 d2
   subst d1
   exact hrow ⟨k,ver,e',v',o',l',rfl,hk⟩
  ·cases hd2
theorem rows_lt {t:Ty} {w:World} {l:List t.den} {css:List (List Value)} {fps:List (List Nat)} (hrw:RowsOf t.rp w l css fps):∀ b ∈ fps.flatten,b < w.heap.size:=by
 intro b hb
 obtain ⟨f,hf,hbf⟩:=List.mem_flatten.1 hb
 obtain ⟨i,hi,rfl⟩:=List.getElem_of_mem hf
 obtain ⟨cs,f',_,h2,h3⟩:=hrw.2.2 i (l[i]'(by have:=hrw.2.1; omega)) (List.getElem?_eq_getElem (by have:=hrw.2.1; omega))
 rw [List.getElem?_eq_getElem hi] at h2
 injection h2 with h2
 rw [h2] at hbf
 exact t.rp.lt h3 b hbf
theorem growF_flat {t:Ty} {base:Nat} {w:World} {e:TypeId} {v:Value} {l:List t.den} {fps:List (List Nat)} (hf:t.flat=true) (h:GrowF t.rp base w e v l fps):fps.flatten=[]:=by
 obtain ⟨ad,cc,css,_,h2,_⟩:=growF_rows h
 exact flat_rows hf h2
theorem put_fin {σ σ':St} {Γ':Asg} {a:Act} {w':World} {K':Act->World->Prop} {e:Eff} {u:Value} (hK':∀ Γ' a' w',Sim c (σ.app o.dst e) Γ' a' w'->K' a' w') (hd:∀ d,o.dst=some d->d < c.n) (hs:Sim c σ' Γ' a w') (hv:VRep c σ'.mem Γ' w' e.v u) (h0:σ'.tmps=σ.tmps) (h1:σ'.mem=e.mems++σ.mem):K' (a.put o.dst u) w':=by
 refine hK' Γ' _ _ ?_
 have:=hs.put (d:=o.dst) hv (fun x hx=>hd x hx)
 unfold St.app
 rw [<-h1]
 cases hdst:o.dst<;>simp only [hdst,St.put,h0] at this ⊢<;>first|exact this|(rw [<-h0]; exact this)
theorem zv_size (t:Ty):t.zv.cells.size=t.size:=by rw [zv_cells]; simp [zc_len]
theorem aAppend_ok (hT:TabOK P T) (hnx:∀ k,nx<=k->lm k=none) {ty:TypeId} {x y:Operand} (ho:o.op=.call { callee:=.builtin .append,args:=#[x,y],argTypes:=#[ty,ty] }) (h:aAppend P T lt lm nx K ty x y):∃ e,K e/\SOK P c lt lm nx o e:=by
 unfold aAppend at h
 have hm1:x ∈ o.op.operands.toList:=by simp [ho,Op.operands,Call.operands]
 have hm2:y ∈ o.op.operands.toList:=by simp [ho,Op.operands,Call.operands]
 have hrun:∀ (a:Act) (w w':World) (u v v':Value),a.eval x=u->a.eval y=v->(Builtin.append_ #[ty,ty] o.type #[u,v]).run P w=.ok v' w'->(execOp a.eval o).run P w=.ok (.value v') w':=by
  intro a w w' u v v' h1 h2 h3
  simp only [execOp,ho,resolve,invoke,builtin,Sem.run_bind,Sem.run_pure,Result.andThen_ok,List.map_toArray,List.map_cons,List.map_nil,h1,h2,h3]
 split at h
 ·rename_i e hu
  split at h
  ·rename_i t i k ver v ht hi hx hy
   split at h
   ·rename_i e' s vv oo l d hk hdat
    split at h
    rotate_left
    ·exact h.elim
    rename_i m hmg
    obtain rfl:=lget_eq hmg
    obtain ⟨rfl,rfl,hkv,hss,hb1,hb2,hK⟩:=h
    obtain ⟨i',dd,hi1,hi2,hi3,_,_⟩:=hT _ _ ht
    simp only [bts,hi1,Option.map_some,Option.some.injEq] at hi
    subst hi
    have hsz':=s.rp_size
    have hps:=s.pos
    by_cases how:(!s.flat && oo && OwnL lm v)=true
    ·rw [how,Bool.or_true,if_pos rfl] at hK
     refine ⟨_,hK,fun p hp=>?_,fun σ Γ a w hs hl hm hn hd K' Q hK'=>?_⟩
     ·rcases List.mem_cons.1 hp with rfl|hp
      ·exact .inr List.mem_cons_self
      ·exact .inr (List.mem_cons_of_mem _ (frzU_mem hp))
     simp only [Bool.and_eq_true,Bool.not_eq_true'] at how
     obtain ⟨⟨hnf,rfl⟩,how⟩:=how
     have hk':=(hm k List.mem_cons_self).trans hk
     have hmv:∀ j ∈ v.rows,look σ.mem j=lm j:=fun j hj=>hm j (List.mem_cons_of_mem _ hj)
     have hvr:=op_ev hs hl hm2 hy
     obtain ⟨k2,ver2,rfl⟩:∃ k2 ver2,v=.row k2 ver2:=by
      cases v with
      | row k2 ver2=>exact ⟨k2,ver2,rfl⟩
      | sl _ _=>cases how
      | _=>cases hdat
     have hkk:k ≠ k2:=fun e=>hkv (by rw [e]; exact List.mem_singleton.2 rfl)
     have how':OwnC σ (.row k2 ver2)=true:=by
      rw [OwnC,ownL_congr (lm:=lm) (fun k' ver' he=>(by cases he; exact hmv k2 (List.mem_singleton.2 rfl)))]; exact how
     have hdat':(AV.row k2 ver2).data (look σ.mem)=some ⟨s,m⟩:=by rw [<-hdat]; exact data_congr fun k' ver' he=>(by cases he; exact hmv k2 (List.mem_singleton.2 rfl))
     obtain ⟨fp,hr,hofp,hhold⟩:=hs.ownRep (t:=.slice s) (cs:=[.row k2 ver2]) (us:=[a.eval y]) ⟨hvr,trivial⟩ ⟨_,rfl,.inl hdat'⟩ (by simp [how']) (by simp [cellRows])
     have hlive:=ownC_live how'
     obtain ⟨ad,cc,css,fps2,hu2,hr2,hsub,hn2,hc2,hfpx⟩:=slice_rows' (p:=s.pos) hr
     have ho2:OwnFp c.base w fps2.flatten:=by
      rcases hfpx with e|⟨b,e⟩
      ·rw [e]; exact ownFp_nil _ _
      ·rw [e] at hofp; exact ⟨(List.nodup_cons.1 hofp.1).2,fun b hb=>hofp.2 b (List.mem_cons_of_mem _ hb)⟩
     have hh2:∀ b ∈ fps2.flatten,Holds σ Γ k2 b:=fun b hb=>by
      obtain ⟨k3,hk3,hh⟩:=hhold b (hsub b hb)
      have:k3=k2:=by simpa [cellRows] using hk3
      rwa [this] at hh
     have hf':=hs.frz (ks:=[k2])
     have hcongr:frzU (look σ.mem) [k2]=frzU lm [k2]:=frzU_congr fun j hj=>hmv j hj
     have hfree:∀ b ∈ fps2.flatten,∀ j B,look (frzU lm [k2]++σ.mem) j=some B->¬ B.mut Γ j b/\b ∉ B.ofp Γ j:=fun b hb j B hj=>by
      rw [<-hcongr] at hj
      exact frz_free hs (List.mem_singleton.2 rfl) hlive (hh2 b hb) hj
     rw [hcongr] at hf'
     have hkf:look (frzU lm [k2]++σ.mem) k=some (.row e' s vv true l):=by
      rw [look_app]
      cases hq:look (frzU lm [k2]) k with
      | none=>exact hk'
      | some B=>obtain ⟨q,hq1,hq2⟩:=look_mem hq; have:=frzU_mem hq1; rw [hq2] at this; exact absurd (List.mem_singleton.1 this) hkk
     obtain ⟨fps,hg,hf,hgd,hon⟩:=hf'.mm k _ hkf
     obtain ⟨_,B,hB,hbh⟩:=(op_ev hs hl hm1 hx:VRep c σ.mem Γ w _ (a.eval x))
     rw [hk'] at hB; injection hB with hB; subst hB
     have hxe:=hbh.2 rfl
     have hg2:∀ b ∈ fps2.flatten,Gd c (frzU lm [k2]++σ.mem) Γ b:=fun b hb=>⟨.inr (ho2.2 b hb).1,fun ⟨j,B,hj,hmu⟩=>(hfree b hb j B hj).1 hmu⟩
     have hnm:∀ b,Gd c (frzU lm [k2]++σ.mem) Γ b->(Γ.hd k).ownBlock ≠ some b:=fun b hb e=>hb.2 ⟨k,_,hkf,e⟩
     obtain ⟨v',w',h1,h2,h3,h4⟩:=run_appendF (P:=P) ty o.type e' i' t.zv hu hi1 hi3 (by rw [hi2,hsz',hss]) (by rw [zv_size,hsz',hss]) hps hg hu2 hr2 hn2 hc2 (by simp only [maxLen]; exact hb2) hb1 hs.hb (fun b hb=>hnm b (hgd b (hf ▸ hb))) (fun b hb=>hnm b (hg2 b hb))
     have hall:∀ b ∈ (fps++fps2).flatten,b < w.heap.size/\Gd c (frzU lm [k2]++σ.mem) Γ b:=by
      intro b hb
      rw [List.flatten_append,List.mem_append] at hb
      rcases hb with hb|hb
      ·exact ⟨hg.lt b hb,hgd b (hf ▸ hb)⟩
      ·exact ⟨rows_lt hr2 b hb,hg2 b hb⟩
     have ho1:=hon rfl
     rw [hf] at ho1
     have hh1:∀ b ∈ fps.flatten,Holds σ Γ k b:=fun b hb=>⟨_,hk',.inr (by simp only [Blk.ofp]; rw [hf]; exact hb)⟩
     have hs2:=hf'.updRow (ver':=vv+1) (o':=true) hkf h2 h3 (h4.imp id fun h b hb=>by rw [h] at hb; injection hb with hb; omega) (.inl rfl) hall
      (fun _=>by
       refine ⟨ownFp_frame (w:=w) ⟨?_,fun b hb=>?_⟩ fun b hb=>h3.block b (hall b hb).1 fun e=>hnm b (hall b hb).2 e.symm,fun b hb j B hjk hj=>?_⟩
       ·rw [List.flatten_append,List.nodup_append]
        refine ⟨ho1.1,ho2.1,fun b hb b' hb' e=>?_⟩
        subst e
        exact hkk (holds_inj hs (hh1 b hb) (hh2 b hb'))
       ·rw [List.flatten_append,List.mem_append] at hb
        exact hb.elim (ho1.2 b) (ho2.2 b)
       ·rw [List.flatten_append,List.mem_append] at hb
        rcases hb with hb|hb
        ·exact hf'.disj k j _ B b hkf hj (Ne.symm hjk) (by simp only [Blk.ofp]; rw [hf]; exact hb)
        ·exact (hfree b hb j B hj).2)
     refine wp_value (hrun a w w' _ _ v' hxe rfl h1) (put_fin hK' hd hs2 ?_ rfl rfl)
     refine ⟨?_,_,look_self ..,Nat.le_refl _,fun _=>by rw [Asg.setR_hd]⟩
     obtain ⟨ad',cc',css',e1,_⟩:=growF_rows h2
     rw [e1]; rfl
    ·have how':(!s.flat && oo && OwnL lm v)=false:=by simpa using how
     rw [how',Bool.or_false,if_neg (by simp)] at hK
     refine ⟨_,hK,fun p hp=>?_,fun σ Γ a w hs hl hm hn hd K' Q hK'=>?_⟩
     ·simp at hp; subst hp; exact .inr List.mem_cons_self
     have hk':=(hm k List.mem_cons_self).trans hk
     obtain ⟨ad,cc,css,fps2,hu2,hr2,hg2,hn2,hc2⟩:=data_rows hs (op_ev hs hl hm2 hy) (fun j hj=>hm j (List.mem_cons_of_mem _ hj)) hdat
     obtain ⟨fps,hg,hf,hgd,_⟩:=hs.mm k _ hk'
     obtain ⟨_,B,hB,hbh⟩:=(op_ev hs hl hm1 hx:VRep c σ.mem Γ w _ (a.eval x))
     rw [hk'] at hB; injection hB with hB; subst hB
     have hxe:=hbh.2 rfl
     have hnm:∀ b,Gd c σ.mem Γ b->(Γ.hd k).ownBlock ≠ some b:=fun b hb e=>hb.2 ⟨k,_,hk',e⟩
     have hsz':=s.rp_size
     have hps:=s.pos
     obtain ⟨v',w',h1,h2,h3,h4⟩:=run_appendF (P:=P) ty o.type e' i' t.zv hu hi1 hi3 (by rw [hi2,hsz',hss]) (by rw [zv_size,hsz',hss]) hps hg hu2 hr2 hn2 hc2 (by simp only [maxLen]; exact hb2) hb1 hs.hb (fun b hb=>hnm b (hgd b (hf ▸ hb))) (fun b hb=>hnm b (hg2 b hb))
     have hall:∀ b ∈ (fps++fps2).flatten,b < w.heap.size/\Gd c σ.mem Γ b:=by
      intro b hb
      rw [List.flatten_append,List.mem_append] at hb
      rcases hb with hb|hb
      ·exact ⟨hg.lt b hb,hgd b (hf ▸ hb)⟩
      ·exact ⟨rows_lt hr2 b hb,hg2 b hb⟩
     have hs2:=hs.updRow (ver':=vv+1) (o':=s.flat) hk' h2 h3 (h4.imp id fun h b hb=>by rw [h] at hb; injection hb with hb; omega) (.inl rfl) hall
      (fun hfl=>by rw [growF_flat hfl h2]; exact ⟨ownFp_nil _ _,fun b hb=>by cases hb⟩)
     refine wp_value (hrun a w w' _ _ v' hxe rfl h1) (put_fin hK' hd hs2 ?_ rfl rfl)
     refine ⟨?_,_,look_self ..,Nat.le_refl _,fun _=>by rw [Asg.setR_hd]⟩
     obtain ⟨ad',cc',css',e1,_⟩:=growF_rows h2
     rw [e1]; rfl
   ·exact h.elim
  ·rename_i t i v ht hi hx hy
   split at h
   ·rename_i d hdat
    split at h
    rotate_left
    ·exact h.elim
    rename_i m hmg
    obtain rfl:=lget_eq hmg
    obtain ⟨hb1,hb2,hK⟩:=h
    refine ⟨_,hK,fun p hp=>?_,fun σ Γ a w hs hl hm hn hd K' Q hK'=>?_⟩
    ·simp at hp; subst hp; exact .inl (Nat.le_refl _)
    have hnone:look σ.mem nx=none:=by
     by_cases hin:nx ∈ v.rows
     ·rw [hm nx hin]; exact hnx nx (Nat.le_refl _)
     ·exact hn (nx,_) List.mem_cons_self hin
    obtain ⟨ad,cc,css,fps2,hu2,hr2,hg2,hn2,hc2⟩:=data_rows hs (op_ev hs hl hm2 hy) hm hdat
    have hxe:a.eval x=_:=(op_ev hs hl hm1 hx:VRep c σ.mem Γ w _ (a.eval x)).1
    obtain ⟨i',dd,hi1,hi2,hi3,_,_⟩:=hT _ _ ht
    simp only [bts,hi1,Option.map_some,Option.some.injEq] at hi
    subst hi
    have hsz':=t.rp_size
    have hps:=t.pos
    obtain ⟨v',w',h1,h2,h3,h4⟩:=run_appendF (P:=P) (A:=t.rp) ty o.type e i' t.zv hu hi1 hi3 (by rw [hi2,hsz']) (by rw [zv_size,hsz']) hps (growF_nil c.base w e) hu2 hr2 hn2 hc2 (by simp only [maxLen,List.length_nil]; omega) (by simpa using hb1) hs.hb (fun b hb=>by simp at hb) (fun b hb=>by simp [Value.ownBlock])
    simp only [List.nil_append] at h2
    have hbel:Below w.heap.size w w':=⟨h3.os,h3.tape,h3.output,h3.size,fun b hb=>h3.block b hb (by simp [Value.ownBlock])⟩
    have hs2:=hs.newRow (o:=t.flat) hnone hbel h2 (fun b hb=>by
     rcases h4 with h4|h4
     ·rw [h4] at hb; cases hb
     ·rw [h4] at hb; injection hb with hb; omega) (fun b hb=>.inr ⟨rows_lt hr2 b hb,hg2 b hb⟩)
     (fun hfl=>by rw [growF_flat hfl h2]; exact ⟨ownFp_nil _ _,fun b hb=>by cases hb⟩)
    refine wp_value (hrun a w w' _ _ v' hxe rfl h1) (put_fin hK' hd hs2 ?_ rfl rfl)
    refine ⟨?_,_,look_self ..,Nat.le_refl _,fun _=>by rw [Asg.setR_hd]⟩
    obtain ⟨ad',cc',css',e1,_⟩:=growF_rows h2
    rw [e1]; rfl
   ·exact h.elim
  ·exact h.elim
 ·exact h.elim
theorem madeCells_get (z:Array Value) (n i:Nat) (h:i < n):(madeCells z n)[i]? = some (z[i % z.size]!):=by simp [madeCells,h]
theorem flat_replicate {α:Type} (cs:List α) (n i:Nat) (h0:0 < cs.length) (h:i < n * cs.length):(List.replicate n cs).flatten[i]? = cs[i % cs.length]?:=by
 induction n generalizing i with
 | zero=>simp at h
 | succ n ih =>
  rw [List.replicate_succ,List.flatten_cons]
  rcases Nat.lt_or_ge i cs.length with hi|hi
  ·rw [List.getElem?_append_left hi,Nat.mod_eq_of_lt hi]
  ·rw [Nat.succ_mul] at h
   rw [List.getElem?_append_right hi,ih _ (by omega),Nat.mod_eq_sub_mod hi]
theorem aMakeSlice_ok (hT:TabOK P T) {ty:TypeId} {x y:Operand} (ho:o.op=.makeSlice ty x y) (h:aMakeSlice P T lt nx K ty x y):∃ e,K e/\SOK P c lt lm nx o e:=by
 unfold aMakeSlice at h
 split at h
 ·rename_i e hu
  split at h
  ·rename_i t i n m ht hi hx hy
   obtain ⟨h0,hnm,hby,hK⟩:=h
   refine ⟨_,hK,SOK.one (.inl (Nat.le_refl _)) fun σ Γ a w hs hl _ hn=>?_⟩
   obtain ⟨e1,_,o1⟩:=(op_ev hs hl (by simp [ho,Op.operands]) hx:VRep c σ.mem Γ w _ (a.eval x))
   obtain ⟨e2,_,o2⟩:=(op_ev hs hl (by simp [ho,Op.operands]) hy:VRep c σ.mem Γ w _ (a.eval y))
   obtain ⟨i',dd,hi1,hi2,hi3,_,_⟩:=hT _ _ ht
   simp only [bts,hi1,Option.map_some,Option.some.injEq] at hi
   subst hi
   have hrun:=run_make (P:=P) w ty e i' t.zv hu hi1 hi3 .i64 .i64 n m h0 hnm hby o2.2
   rw [hi2] at hrun
   have hp0:=t.pos
   rw [t.rp_size] at hp0
   have hzl:=zc_len t
   have hmul:n.toNat * t.size<=m.toNat * t.size:=Nat.mul_le_mul_right _ (by omega)
   have hcells:madeCells t.zv.cells (m.toNat * t.size)=((List.replicate n.toNat t.zc).flatten++(madeCells t.zv.cells (m.toNat * t.size)).toList.drop (n.toNat * t.size)).toArray:=by
    apply Array.toList_inj.1
    rw [List.toList_toArray]
    apply List.ext_getElem?
    intro q
    have hfl:(List.replicate n.toNat t.zc).flatten.length=n.toNat * t.size:=by simp [hzl]
    rcases Nat.lt_or_ge q (n.toNat * t.size) with hq|hq
    ·rw [List.getElem?_append_left (by omega),flat_replicate _ _ _ (by omega) (by rw [hzl]; exact hq),Array.getElem?_toList,madeCells_get _ _ _ (by omega),zv_cells,hzl]
     have:q % t.size < t.zc.length:=by rw [hzl]; exact Nat.mod_lt _ hp0
     simp [hzl,List.getElem?_eq_getElem this,getElem!_pos,this]
    ·rw [List.getElem?_append_right (by omega),hfl,List.getElem?_drop]
     congr 1; omega
   have hrw:RowsOf t.rp w (List.replicate n.toNat t.zero) (List.replicate n.toNat t.zc) (List.replicate n.toNat []):=by
    refine ⟨by simp,by simp,fun j x hx=>?_⟩
    have hj:j < n.toNat:=by simpa using (List.getElem?_eq_some_iff.1 hx).1
    rw [List.getElem?_replicate,if_pos hj] at hx
    injection hx with hx
    subst hx
    exact ⟨t.zc,[],by rw [List.getElem?_replicate,if_pos hj],by rw [List.getElem?_replicate,if_pos hj],zc_rep w t⟩
   have hgf:=growF_new (base:=c.base) (e:=e) hs.hb hrw (by simp only [maxLen,List.length_replicate]; have:=o2.2; omega) ((madeCells t.zv.cells (m.toNat * t.size)).toList.drop (n.toNat * t.size)) m.toNat (by simp; omega) (by simp only [maxLen]; have:=o2.2; omega)
    (by simp only [List.length_replicate,List.length_drop,Array.length_toList,size_madeCells]; rw [t.rp_size]; omega)
   rw [<-hcells,List.length_replicate] at hgf
   have hfn:(List.replicate n.toNat ([]:List Nat)).flatten=[]:=by simp
   refine ⟨.slice (some ⟨w.heap.size,0,none⟩) n.toNat m.toNat,_,_,.inl (by simp only [execOp,ho,e1,e2,Sem.run_bind,hrun,Result.andThen_ok,Sem.run_pure]),hs.newRow (o:=true) (hn (by simp)) (below_alloc w _) hgf (fun b hb=>by injection hb with hb; subst hb; exact Nat.le_refl _) (fun b hb=>by rw [hfn] at hb; cases hb)
    (fun _=>by rw [hfn]; exact ⟨ownFp_nil _ _,fun b hb=>by cases hb⟩),⟨rfl,_,look_self ..,Nat.le_refl _,fun _=>by rw [Asg.setR_hd]⟩⟩
  ·exact h.elim
 ·exact h.elim
theorem evo_rep {σ:St} {Γ:Asg} {a:Act} {w:World} (hs:Sim c σ Γ a w) {x:Option Operand} {z n:Int} (hl:∀ y,x=some y->∀ t,y=.tmp t->look σ.tmps t=lt t) (h:evo lt x z=some n):(x=none/\n=z)\/∃ y,x=some y/\a.eval y=.int .i64 n:=by
 cases x with
 | none=>injection h with h; exact .inl ⟨rfl,h.symm⟩
 | some y =>
  simp only [evo] at h
  split at h
  ·rename_i m hm
   injection h with h
   subst h
   exact .inr ⟨y,rfl,(ev_rep hs (hl y rfl) hm:VRep c σ.mem Γ w _ (a.eval y)).1⟩
  ·cases h
theorem rep_cut {t:Ty} {w:World} {ad:Option Addr} {cc:Nat} {l:List t.den} {fp:List Nat} (h:(Rp.slice t.rp t.pos).rep w [.slice ad l.length cc] l fp) {i j:Nat} (hij:i<=j) (hj:j<=l.length) :
  ∃ fp',(Rp.slice t.rp t.pos).rep w [.slice (if cc=i then ad else ad.map (·.add (i * t.rp.size))) (j - i) (cc - i)] ((l.take j).drop i) fp'/\∀ b ∈ fp',b ∈ fp:=by
 obtain ⟨ad',cc',h1,h2,h3,h4⟩:=h
 injection h1 with h1
 injection h1 with ha _ hcc
 subst ha hcc
 have hlen:((l.take j).drop i).length=j - i:=by rw [List.length_drop,List.length_take]; omega
 by_cases h0:j - i=0
 ·have:(l.take j).drop i=[]:=List.eq_nil_of_length_eq_zero (by omega)
  rw [this]
  exact ⟨[],⟨_,_,by rw [h0]; rfl,by simp,by omega,.inl ⟨rfl,rfl⟩⟩,fun b hb=>by cases hb⟩
 ·rcases h4 with ⟨rfl,_⟩|⟨b,off,fps,hl,ha,hfp,hfl,he⟩
  ·simp at hj; omega
  ·have hne:cc ≠ i:=by omega
   rw [if_neg hne,ha]
   refine ⟨b :: ((fps.take j).drop i).flatten,⟨some ⟨b,off+i * t.rp.size,none⟩,cc - i,by rw [hlen]; simp [addr_add],by omega,by omega,.inr ⟨b,off+i * t.rp.size,(fps.take j).drop i,?_,rfl,rfl,by rw [hlen,List.length_drop,List.length_take]; omega,fun q x hx=>?_⟩⟩,fun b' hb'=>?_⟩
   ·intro hn; rw [hn] at hlen; simp at hlen; omega
   ·have hq:=(List.getElem?_eq_some_iff.1 hx).1
    rw [hlen] at hq
    rw [List.getElem?_drop,List.getElem?_take,if_pos (by omega)] at hx
    obtain ⟨f,cs,hf,hr,hc⟩:=he _ x hx
    refine ⟨f,cs,by rw [List.getElem?_drop,List.getElem?_take,if_pos (by omega)]; exact hf,hr,fun p v hv=>?_⟩
    have:=hc p v hv
    rw [Nat.add_mul] at this
    rw [show off+i * t.rp.size+q * t.rp.size+p=off+(i * t.rp.size+q * t.rp.size)+p by omega]
    exact this
   ·rw [hfp]
    rcases List.mem_cons.1 hb' with rfl|hb'
    ·exact List.mem_cons_self
    ·obtain ⟨f,hf,hbf⟩:=List.mem_flatten.1 hb'
     exact List.mem_cons_of_mem _ (List.mem_flatten.2 ⟨f,List.mem_of_mem_take (List.mem_of_mem_drop hf),hbf⟩)
theorem data_frz {v:AV} {d:Lst} {M:Mm} (hd:v.data lm=some d) (hm:∀ k ∈ v.rows,look M k=lm k):v.data (look (frzU lm v.rows++M))=some d:=by
 cases v with
 | sl t l=>exact hd
 | row k ver =>
  have hk:=hm k (by simp [AV.rows])
  simp only [AV.rows,AV.data,frzU] at hd ⊢
  cases hl:lm k with
  | none=>rw [hl] at hd; cases hd
  | some B =>
   rw [hl] at hd
   simp only [Option.bind_some] at hd ⊢
   cases B with
   | row e t v o l =>
    simp only [Blk.fz,List.nil_append,List.cons_append,look_self,Option.bind_some,Blk.data] at hd ⊢
    exact hd
   | odat t l =>
    simp only [Blk.fz,List.nil_append,List.cons_append,look_self,Option.bind_some,Blk.data] at hd ⊢
    split at hd
    ·rename_i h0; rw [if_pos h0.symm]; exact hd
    ·cases hd
   | froz t v l =>
    simp only [Blk.fz,List.nil_append,hk,hl,Option.bind_some]
    exact hd
   | _=>cases hd
 | _=>cases hd
theorem slice_run {ty e:TypeId} {x:Operand} {lo hi:Option Operand} {a:Act} {w:World} {σ:St} {Γ:Asg} {s t:Ty} (hT:TyOK P e t) (hss:t.size=s.size) (ho:o.op=.slice ty x lo hi none) (hu:P.underlying ty=some (.slice e)) (hs:Sim c σ Γ a w) (hl:∀ t ∈ opnds o,look σ.tmps t=lt t)
  {ad:Option Addr} {n cc:Nat} (hva:a.eval x=.slice ad n cc) (hlc:n<=cc) {za zb:Int} (hza:evo lt lo 0=some za) (hzb:evo lt hi n=some zb) (h0:0<=za) (hab:za<=zb) (hbl:zb<=n) :
  (execOp a.eval o).run P w=.ok (.value (.slice (if cc=za.toNat then ad else ad.map (·.add (za.toNat * s.rp.size))) (zb.toNat - za.toNat) (cc - za.toNat))) w:=by
 have hsz:=hT.sizeOf w
 have hlo:=evo_rep hs (x:=lo) (fun y hy t e=>hl t (mem_opnds (by simp [ho,Op.operands,hy]) e)) hza
 have hhi:=evo_rep hs (x:=hi) (fun y hy t e=>hl t (mem_opnds (by simp [ho,Op.operands,hy]) e)) hzb
 have hb1:zb<=(cc:Int):=by omega
 have hb2:zb.toNat<=n:=by omega
 have hsz':s.rp.size=t.size:=by rw [s.rp_size,hss]
 have c1:∀ code,(Instr.sliceBound (.int .i64 zb) cc code).run P w=.ok zb.toNat w:=fun code=>run_sliceBound (P:=P) (w:=w) .i64 zb cc code (by omega) hb1
 have c2:∀ code,(Instr.sliceBound (.int .i64 za) zb.toNat code).run P w=.ok za.toNat w:=fun code=>run_sliceBound (P:=P) (w:=w) .i64 za _ code h0 (by omega)
 have key:∀ (ol oh:Option Value),(ol=none/\za=0\/ol=some (.int .i64 za))->(oh=none/\zb=n\/oh=some (.int .i64 zb))->(Instr.sliceBounds true n cc ol oh none).run P w=.ok (za.toNat,zb.toNat,cc) w:=by
  intro ol oh h1 h2
  have hh:zb=n->(n:Int).toNat=zb.toNat:=fun h=>by rw [h]
  rcases h1 with ⟨rfl,rfl⟩|rfl<;>rcases h2 with ⟨rfl,hz⟩|rfl
  ·simp [Instr.sliceBounds,hz]
  ·simp [Instr.sliceBounds,c1]
  ·have hz2:n=zb.toNat:=by omega
   simp only [Instr.sliceBounds,Sem.run_bind,Sem.run_pure,Result.andThen_ok]
   rw [hz2]
   simp [c2]
  ·simp [Instr.sliceBounds,c1,c2]
 have hkk:=key (lo.map a.eval) (hi.map a.eval) (by rcases hlo with ⟨rfl,h⟩|⟨y,rfl,h⟩<;>simp_all) (by rcases hhi with ⟨rfl,h⟩|⟨y,rfl,h⟩<;>simp_all)
 simp only [execOp,ho,hva,Instr.sliceAt,Sem.run_bind,run_underlying hu,Result.andThen_ok,Instr.slice,Option.map_none,hkk,hsz,hsz',Sem.run_pure]
theorem growF_take {t:Ty} {base:Nat} {w:World} {e:TypeId} {ad:Option Addr} {cc m:Nat} {l:List t.den} {fps:List (List Nat)} (h:GrowF t.rp base w e (.slice ad l.length cc) l fps) (hm:m<=l.length) :
  GrowF t.rp base w e (.slice ad m cc) (l.take m) (fps.take m):=by
 obtain ⟨xs,⟨h1,h2⟩,h3,h4⟩:=h
 have hmul:m * t.rp.size<=l.length * t.rp.size:=Nat.mul_le_mul_right _ hm
 refine ⟨xs.take (m * t.rp.size),⟨by rw [List.length_take,List.length_take]; rw [Nat.min_eq_left hm]; omega,?_⟩,by rw [List.length_take,List.length_take,h3],fun i x hx=>?_⟩
 ·rw [List.length_take,Nat.min_eq_left hm]
  rcases h2 with ⟨h2,h5⟩|⟨g,cap,cur,e1,hb,hg,hc,hcm,hcs,htk⟩
  ·injection h2 with e1 e2 e3
   subst e1 e3
   have:m=0:=by omega
   subst this
   exact .inl ⟨rfl,rfl⟩
  ·injection e1 with e1 e2 e3
   subst e1 e3
   exact .inr ⟨g,cc,cur,rfl,hb,hg,by omega,hcm,hcs,by rw [<-htk,List.take_take,Nat.min_eq_left hmul]⟩
 ·rw [List.getElem?_take] at hx
  split at hx
  ·rename_i him
   obtain ⟨f,cs,hf,hr,hc⟩:=h4 i x hx
   refine ⟨f,cs,by rw [List.getElem?_take,if_pos him]; exact hf,hr,fun j d hd=>?_⟩
   have hj:j < t.rp.size:=by have:=t.rp.len hr; have:=(List.getElem?_eq_some_iff.1 hd).1; omega
   have:(i+1) * t.rp.size<=m * t.rp.size:=Nat.mul_le_mul_right _ him
   rw [List.getElem?_take,if_pos (by rw [Nat.add_mul] at this; omega)]
   exact hc j d hd
  ·cases hx
theorem aSlice_ok (hT:TabOK P T) {ty:TypeId} {x:Operand} {lo hi mx:Option Operand} (ho:o.op=.slice ty x lo hi mx) (h:aSlice P T lt lm K ty x lo hi mx):∃ e,K e/\SOK P c lt lm nx o e:=by
 unfold aSlice at h
 split at h
 ·rename_i e v hu hx
  split at h
  ·rename_i t s l ht hdat
   split at h
   ·rename_i za zb hza hzb
    obtain ⟨rfl,hss,h0,hab,hbl,hK⟩:=h
    have hK':K ⟨.sl s ((l.take zb.toNat).drop za.toNat),frzU lm v.rows,v.rows⟩\/∃ (k ver:Nat) (e:TypeId) (o:Bool),v=.row k ver/\za=0/\lm k=some (.row e s ver o l)/\K ⟨.row k (ver+1),[(k,.row e s (ver+1) s.flat (l.take zb.toNat))],[k]⟩:=by
     cases v with
     | row k ver =>
      rcases hK with hK|⟨hz,e,o,h1,h2⟩
      ·exact .inl hK
      ·exact .inr ⟨k,ver,e,o,rfl,hz,h1,h2⟩
     | _=>exact .inl hK
    clear hK
    rcases hK' with hK|⟨k,ver,te,oo,rfl,rfl,hk,hK⟩
    ·refine ⟨_,hK,fun p hp=>.inr (frzU_mem hp),fun σ Γ a w hs hl hm hn hd K' Q hK'=>?_⟩
     have hf':=hs.frz (ks:=v.rows)
     have hcongr:frzU (look σ.mem) v.rows=frzU lm v.rows:=frzU_congr fun k hk=>hm k hk
     rw [hcongr] at hf'
     have hv:=op_ev hf' hl (x:=x) (by simp [ho,Op.operands]) hx
     have hd':v.data (look (frzU lm v.rows++σ.mem))=some ⟨s,l⟩:=data_frz hdat hm
     obtain ⟨fp,hr,_,hgd⟩:=hf'.sliceRep (vrep_crep_data hv hdat) hd'
     obtain ⟨ad,cc,hva,hlc,_⟩:=slice_lt hr
     rw [hva] at hr
     obtain ⟨fp',hr',hsub⟩:=rep_cut hr (i:=za.toNat) (j:=zb.toNat) (by omega) (by omega)
     have hrun:=slice_run (s:=s) (hT e t ht) hss ho hu hs hl hva hlc hza hzb h0 hab hbl
     refine wp_value hrun (put_fin hK' hd hf' ?_ rfl rfl)
     refine ⟨fp',hr',fun b hb=>hgd (fun k ver e e' t' v' o' l' hk=>?_) b (hsub b hb)⟩
     subst e
     rw [<-hcongr] at hk
     exact (frz_no hk).1 (by simp [AV.rows])
    ·refine ⟨_,hK,fun p hp=>?_,fun σ Γ a w hs hl hm hn hd K' Q hK'=>?_⟩
     ·rw [List.mem_singleton] at hp; subst hp; exact .inr (List.mem_singleton.2 rfl)
     have hk':look σ.mem k=some (.row te s ver oo l):=(hm k (List.mem_singleton.2 rfl)).trans hk
     obtain ⟨h1,B,hB,hh⟩:=(op_ev hs hl (x:=x) (by simp [ho,Op.operands]) hx:VRep c σ.mem Γ w (.row k ver) (a.eval x))
     rw [hk'] at hB; injection hB with hB; subst hB
     have hu2:a.eval x=Γ.hd k:=hh.2 rfl
     obtain ⟨fps,hg,hf,hgds,_⟩:=hs.mm k _ hk'
     have hsh:∃ ad cc,Γ.hd k=.slice ad l.length cc/\l.length<=cc:=by
      obtain ⟨xs,⟨_,h2⟩,_⟩:=hg
      rcases h2 with ⟨h2,h5⟩|⟨g,cap,cur,e1,hb,hg,hc,_⟩
      ·exact ⟨none,0,by rw [h2,h5],by omega⟩
      ·exact ⟨_,cap,e1,hc⟩
     obtain ⟨ad,cc,hva,hlc⟩:=hsh
     rw [hva] at hu2
     have hrun:=slice_run (s:=s) (hT e t ht) hss ho hu hs hl hu2 hlc hza hzb (Int.le_refl _) hab hbl
     have he:(if cc=(0:Int).toNat then ad else ad.map (·.add ((0:Int).toNat * s.rp.size)))=ad:=by
      split
      ·rfl
      ·cases ad with
       | none=>rfl
       | some q=>simp [Addr.add]
     rw [he,show zb.toNat - (0:Int).toNat=zb.toNat by simp,show cc - (0:Int).toNat=cc by simp] at hrun
     have hg2:=hg
     rw [hva] at hg2
     have hgt:=growF_take hg2 (m:=zb.toNat) (by omega)
     have hs2:=hs.updRow (o':=s.flat) (ver':=ver+1) hk' hgt (w':=w) ⟨rfl,rfl,rfl,Nat.le_refl _,fun _ _ _=>rfl⟩ (.inl (by rw [hva]; cases ad<;>rfl)) (.inl rfl)
      (fun b hb=>by
       obtain ⟨f,hfm,hbf⟩:=List.mem_flatten.1 hb
       have hb':b ∈ fps.flatten:=List.mem_flatten.2 ⟨f,List.mem_of_mem_take hfm,hbf⟩
       exact ⟨hg.lt b hb',hgds b (hf ▸ hb')⟩)
      (fun hfl=>by rw [growF_flat hfl hgt]; exact ⟨ownFp_nil _ _,fun b hb=>by cases hb⟩)
     refine wp_value hrun (put_fin hK' hd hs2 ⟨rfl,_,look_self ..,Nat.le_refl _,fun _=>by rw [Asg.setR_hd]⟩ rfl rfl)
   ·exact h.elim
  ·exact h.elim
 ·exact h.elim
theorem growF_set {t:Ty} {base:Nat} {w:World} {e:TypeId} {g cap:Nat} {l:List t.den} {fps:List (List Nat)} (h:GrowF t.rp base w e (.slice (some ⟨g,0,none⟩) l.length cap) l fps) {i:Nat} (hi:i < l.length) {x:t.den} {cs:List Value} {f:List Nat} (hr:t.rp.rep w cs x f)
  (hf:∀ b ∈ f,b ≠ g) (hfs:∀ b ∈ fps.flatten,b ≠ g):GrowF t.rp base (putCells w g (i * t.rp.size) cs) e (.slice (some ⟨g,0,none⟩) l.length cap) (l.set i x) (fps.set i f):=by
 obtain ⟨xs,ho,hfl,he⟩:=h
 obtain ⟨hxl,h2⟩:=ho
 rcases h2 with ⟨h2,_⟩|⟨g',cap',cur,hv,hbg,hg,h1',h2',h3',h4'⟩
 ·cases h2
 injection hv with hv _ hcap
 injection hv with hv; injection hv with hv
 subst hv hcap
 have hcl:=t.rp.len hr
 have hmul:(i+1) * t.rp.size<=l.length * t.rp.size:=Nat.mul_le_mul_right _ hi
 have hmul2:l.length * t.rp.size<=cap * t.rp.size:=Nat.mul_le_mul_right _ h1'
 have hs1:(i+1) * t.rp.size=i * t.rp.size+t.rp.size:=Nat.succ_mul _ _
 obtain ⟨cur',g1,g2,g3,g4⟩:=putCells_row g e cs w (i * t.rp.size) cur hg (by omega)
 have hoth:∀ b,b ≠ g->(putCells w g (i * t.rp.size) cs).heap[b]? = w.heap[b]?:=fun b hb=>putCells_other g cs w _ b hb
 refine ⟨cur'.toList.take (l.length * t.rp.size),⟨by rw [List.length_take,List.length_set,show cur'.toList.length=cur'.size from Array.length_toList,g2,h3']; exact Nat.min_eq_left hmul2,.inr ⟨g,cap,cur',by rw [List.length_set],hbg,g1,by rw [List.length_set]; exact h1',h2',g2.trans h3',by rw [List.length_set]⟩⟩,by simp [hfl],fun j y hy=>?_⟩
 by_cases hij:i=j
 ·subst hij
  rw [List.getElem?_set_self hi] at hy
  injection hy with hy
  subst hy
  refine ⟨f,cs,by rw [List.getElem?_set_self (by omega)],t.rp.frame hr fun b hb=>hoth b (hf b hb),fun q d hd=>?_⟩
  have hq:=(List.getElem?_eq_some_iff.1 hd).1
  rw [List.getElem?_take,if_pos (by omega),Array.getElem?_toList]
  exact g3 q d hd
 ·rw [List.getElem?_set_ne hij] at hy
  obtain ⟨f',cs',hf',hr',hc'⟩:=he j y hy
  have hj:=(List.getElem?_eq_some_iff.1 hy).1
  refine ⟨f',cs',by rw [List.getElem?_set_ne hij]; exact hf',t.rp.frame hr' fun b hb=>hoth b (hfs b (List.mem_flatten.2 ⟨f',List.mem_of_getElem? hf',hb⟩)),fun q d hd=>?_⟩
  have hq:q < t.rp.size:=by rw [<-t.rp.len hr']; exact (List.getElem?_eq_some_iff.1 hd).1
  have hmj:(j+1) * t.rp.size<=l.length * t.rp.size:=Nat.mul_le_mul_right _ hj
  have hsj:(j+1) * t.rp.size=j * t.rp.size+t.rp.size:=Nat.succ_mul _ _
  have:=hc' q d hd
  rw [<-h4',List.getElem?_take,if_pos (by omega),Array.getElem?_toList] at this
  rw [List.getElem?_take,if_pos (by omega),Array.getElem?_toList,g4 _ ?_]
  ·exact this
  ·rcases Nat.lt_or_gt_of_ne hij with hlt|hlt
   ·have:=Nat.mul_le_mul_right t.rp.size (show i+1<=j from hlt); omega
   ·have:=Nat.mul_le_mul_right t.rp.size (show j+1<=i from hlt); omega
theorem nodup_set {fp:List Nat}:∀ {fps:List (List Nat)} {i:Nat},fps.flatten.Nodup->fp.Nodup->(∀ b ∈ fp,b ∉ fps.flatten)->(fps.set i fp).flatten.Nodup
 | [],_,_,_,_=>by simp
 | f :: fps,0,h,hf,hd=>by
  rw [List.flatten_cons,List.nodup_append] at h
  rw [List.set_cons_zero,List.flatten_cons,List.nodup_append]
  exact ⟨hf,h.2.1,fun b hb b' hb' e=>hd b hb (by rw [List.flatten_cons,List.mem_append,e]; exact .inr hb')⟩
 | f :: fps,i+1,h,hf,hd=>by
  rw [List.flatten_cons,List.nodup_append] at h
  rw [List.set_cons_succ,List.flatten_cons,List.nodup_append]
  refine ⟨h.1,nodup_set h.2.1 hf fun b hb hb'=>hd b hb (by rw [List.flatten_cons,List.mem_append]; exact .inr hb'),fun b hb b' hb' e=>?_⟩
  subst e
  obtain ⟨g,hg,hbg⟩:=List.mem_flatten.1 hb'
  rcases List.mem_or_eq_of_mem_set hg with hg|rfl
  ·exact h.2.2 b hb b (List.mem_flatten.2 ⟨g,hg,hbg⟩) rfl
  ·exact hd b hbg (by rw [List.flatten_cons,List.mem_append]; exact .inl hb)
theorem aStoreRow_ok (hT:TabOK P T) {ty:TypeId} {x y:Operand} (ho:o.op=.store ty x y) (h:aStoreRow T lt lm K ty x y):∃ e,K e/\SOK P c lt lm nx o e:=by
 unfold aStoreRow at h
 split at h
 ·rename_i t k ver i off v ht hx hy
  split at h
  ·rename_i e s vv oo l hk
   obtain ⟨rfl,rfl,hss,hi,hok,hkv,h⟩:=h
   split at h
   rotate_left
   ·exact h.elim
   rename_i x' hx'
   have his:=rdC_is hx'
   have hK:=h
   refine ⟨_,hK,fun p hp=>?_,fun σ Γ a w hs hl hm hn hd K' Q hK'=>?_⟩
   ·rcases List.mem_cons.1 hp with rfl|hp
    ·exact .inr List.mem_cons_self
    ·exact .inr (List.mem_cons_of_mem _ (frzU_mem hp))
   have hmr:∀ j ∈ v.rows,look σ.mem j=lm j:=fun j hj=>hm j (List.mem_cons_of_mem _ hj)
   have hf':=hs.frz (ks:=v.rows)
   have hcongr:frzU (look σ.mem) v.rows=frzU lm v.rows:=frzU_congr fun k hk=>hmr k hk
   rw [hcongr] at hf'
   have hk0:=(hm k List.mem_cons_self).trans hk
   have hk':look (frzU lm v.rows++σ.mem) k=some (.row e s vv oo l):=by
    have:look (frzU lm v.rows) k=none:=by
     cases hq:look (frzU lm v.rows) k with
     | none=>rfl
     | some B=>obtain ⟨q,hq1,hq2⟩:=look_mem hq; exact absurd (hq2 ▸ frzU_mem hq1) hkv
    rw [look_app,this,hk0]; rfl
   have hvr:=op_ev hf' hl (x:=y) (by simp [ho,Op.operands]) hy
   have hvc:=hvr.cells hok
   have hrows:∀ k' ver',AV.row k' ver' ∈ cellsOf v->k' ∈ v.rows:=by
    intro k' ver' hkk
    cases v with
    | agg cs=>exact mem_cellRows hkk
    | row k2 v2 =>
     have:AV.row k' ver'=.row k2 v2:=List.mem_singleton.1 hkk
     injection this with e1 e2
     simp [AV.rows,e1]
    | _=>have:=List.mem_singleton.1 hkk; cases this
   have his':Is (look (frzU lm v.rows++σ.mem)) s x' (cellsOf v):=by
    refine Is_congr (fun j hj=>?_) his
    obtain ⟨q,hq1,hq2⟩:=List.mem_flatMap.1 hj
    have hjr:j ∈ v.rows:=by
     cases q<;>simp at hq2
     subst hq2
     exact hrows _ _ hq1
    show look (frzU lm v.rows++σ.mem) j=(look (frzU lm v.rows) j).or (lm j)
    rw [look_app,hmr j hjr]
   have hcore:∃ fp,s.rp.rep w (a.eval y).cells.toList x' fp/\(∀ b ∈ fp,Gd c (frzU lm v.rows++σ.mem) Γ b) ∧
     (ownV lm [v]=true->OwnFp c.base w fp/\∀ b ∈ fp,∀ j B,look (frzU lm v.rows++σ.mem) j=some B->b ∉ B.ofp Γ j):=by
    by_cases hov:ownV lm [v]=true
    ·have hc0:=(op_ev hs hl (x:=y) (by simp [ho,Op.operands]) hy:VRep c σ.mem Γ w v (a.eval y)).cells hok
     rw [<-ownV_congr (lm:=lm) (lm':=look σ.mem) (by simp [hok]) (fun k hk=>hmr k (by simpa using hk))] at hov
     have hov2:=hov
     simp only [ownV,Bool.and_eq_true,decide_eq_true_eq,List.all_cons,List.all_nil,Bool.and_true,List.flatMap_cons,List.flatMap_nil,List.append_nil] at hov2
     have hi1:Is (look σ.mem) s x' (cellsOf v):=Is_congr (fun j hj=>by
       rw [rows_cells hok] at hj
       exact hmr j hj) (Is_data (fun u=>(data_lmF lm _ false u).symm) his)
     obtain ⟨fp,r1,r2,r3⟩:=ownV_cells hs hc0 hi1 hov2.1 hov2.2
     have hfree:∀ b ∈ fp,∀ j B,look (frzU lm v.rows++σ.mem) j=some B->¬ B.mut Γ j b/\b ∉ B.ofp Γ j:=by
      intro b hb j B hj
      obtain ⟨k,hk,hh,hlv⟩:=r3 b hb
      rw [rows_cells hok] at hk
      rw [<-hcongr] at hj
      exact frz_free hs hk hlv hh hj
     exact ⟨fp,r1,fun b hb=>⟨.inr (r2.2 b hb).1,fun ⟨j,B,hj,hmu⟩=>(hfree b hb j B hj).1 hmu⟩,fun _=>⟨r2,fun b hb j B hj=>(hfree b hb j B hj).2⟩⟩
    ·obtain ⟨fp,hr,_,hgd⟩:=hf'.isRep hvc his'
     have hgd:=hgd fun k' ver' hkk e t v' o' l' hrow=>by
      rw [<-hcongr] at hrow
      exact (frz_no hrow).1 (hrows k' ver' hkk)
     exact ⟨fp,hr,hgd,fun h=>absurd h hov⟩
   obtain ⟨fp,hr,hgd,hown⟩:=hcore
   obtain ⟨fps,hg,hf,hgds,hog⟩:=hf'.mm k _ hk'
   obtain ⟨_,B,hB,hp⟩:=(op_ev hf' hl (x:=x) (by simp [ho,Op.operands]) hx:VRep c _ Γ w _ (a.eval x))
   rw [hk'] at hB; injection hB with hB; subst hB
   obtain ⟨_,hp⟩:=hp e s vv oo l rfl
   obtain ⟨g,n,cap,hhd,hpt⟩:=hp rfl
   have hnl:n=l.length:=by
    obtain ⟨_,_,_,e1,_⟩:=growF_rows hg
    rw [hhd] at e1; injection e1
   subst hnl
   rw [hhd] at hg
   have hmutg:Mut (frzU lm v.rows++σ.mem) Γ g:=⟨k,_,hk',by show (Γ.hd k).ownBlock=some g; rw [hhd]; rfl⟩
   have hng:∀ b,Gd c (frzU lm v.rows++σ.mem) Γ b->b ≠ g:=fun b hb e=>hb.2 (e ▸ hmutg)
   have hset:=growF_set hg hi hr (fun b hb=>hng b (hgd b hb)) (fun b hb=>hng b (hgds b (hf ▸ hb)))
   have hgr:w.grownBy (putCells w g (i * s.rp.size) (a.eval y).cells.toList) (Γ.hd k).ownBlock:=by
    have hb:=putCells_below (B:=0) (w0:=w) g (a.eval y).cells.toList w (i * s.rp.size) (Below.refl _ _) (Nat.zero_le _)
    exact ⟨hb.os,hb.tape,hb.output,hb.size,fun b _ hne=>putCells_other _ _ _ _ _ (fun e=>hne (by rw [hhd,e]; rfl))⟩
   have hall:∀ b ∈ (fps.set i fp).flatten,b < w.heap.size/\Gd c (frzU lm v.rows++σ.mem) Γ b:=by
    intro b hb
    obtain ⟨f,hfm,hbf⟩:=List.mem_flatten.1 hb
    rcases List.mem_or_eq_of_mem_set hfm with hfm|rfl
    ·have:b ∈ fps.flatten:=List.mem_flatten.2 ⟨f,hfm,hbf⟩
     exact ⟨hg.lt b this,hgds b (hf ▸ this)⟩
    ·exact ⟨s.rp.lt hr b hbf,hgd b hbf⟩
   have hs2:=hf'.updRow (v':=.slice (some ⟨g,0,none⟩) l.length cap) (ver':=vv) (o':=s.flat || (oo && ownV lm [v])) hk' hset hgr (.inl (by rw [hhd])) (.inr ⟨rfl,hhd.symm⟩) hall
    (fun hfl=>by
     by_cases hfs:s.flat=true
     ·rw [growF_flat hfs hset]; exact ⟨ownFp_nil _ _,fun b hb=>by cases hb⟩
     simp only [Bool.not_eq_true] at hfs
     rw [hfs,Bool.false_or,Bool.and_eq_true] at hfl
     obtain ⟨rfl,hov⟩:=hfl
     obtain ⟨hw1,hw2⟩:=hown hov
     have hw0:=hog rfl
     rw [hf] at hw0
     refine ⟨ownFp_frame (w:=w) ⟨nodup_set hw0.1 hw1.1 fun b hb hb'=>hw2 b hb k _ hk' (by simp only [Blk.ofp]; rw [hf]; exact hb'),fun b hb=>?_⟩ fun b hb=>putCells_other _ _ _ _ _ (hng b (hall b hb).2),fun b hb j B hjk hj=>?_⟩
     ·obtain ⟨f,hfm,hbf⟩:=List.mem_flatten.1 hb
      rcases List.mem_or_eq_of_mem_set hfm with hfm|rfl
      ·exact hw0.2 b (List.mem_flatten.2 ⟨f,hfm,hbf⟩)
      ·exact hw1.2 b hbf
     ·obtain ⟨f,hfm,hbf⟩:=List.mem_flatten.1 hb
      rcases List.mem_or_eq_of_mem_set hfm with hfm|rfl
      ·exact hf'.disj k j _ B b hk' hj (Ne.symm hjk) (by simp only [Blk.ofp]; rw [hf]; exact List.mem_flatten.2 ⟨f,hfm,hbf⟩)
      ·exact hw2 b hbf j B hj)
   have hrun:(execOp a.eval o).run P w=.ok .skip (putCells w g (i * s.rp.size) (a.eval y).cells.toList):=by
    obtain ⟨xs,ho2,_,_⟩:=hg
    rcases ho2.2 with ⟨h2,_⟩|⟨g',cap',cur,hv,hbg,hgg,h1',h2',h3',h4'⟩
    ·cases h2
    injection hv with hv _ hcap
    injection hv with hv; injection hv with hv
    subst hv hcap
    have hcl:=s.rp.len hr
    have hmul:(i+1) * s.rp.size<=l.length * s.rp.size:=Nat.mul_le_mul_right _ hi
    have hmul2:l.length * s.rp.size<=cap * s.rp.size:=Nat.mul_le_mul_right _ h1'
    have hs1:(i+1) * s.rp.size=i * s.rp.size+s.rp.size:=Nat.succ_mul _ _
    have hst:=run_storeCells' (P:=P) g (a.eval y).cells.toList 0 (i * s.rp.size) w (fun j hj=>⟨cur[i * s.rp.size+j]'(by omega),by rw [cell_of_row w _ _ cur e (0,0) hgg,Nat.add_zero,Array.getElem?_eq_getElem]⟩) (fun oo=>frozen_of_row w _ oo cur e hgg) (s.rp.one hr)
    have hsz:(a.eval y).cells.size=t.size:=by
     have:=s.rp_size
     simp only [Array.length_toList] at hcl; omega
    rw [Nat.add_zero] at hpt
    simp only [execOp,ho,hpt,Instr.storeAt,Instr.sureAddr,storeVar,Sem.run_bind,Sem.run_pure,Result.andThen_ok,(hT ty t ht).sizeOf,hsz,ne_eq,not_true_eq_false,if_false]
    rw [hst]; rfl
   exact wp_skip' hrun (put_fin (u:=undef) hK' hd hs2 trivial rfl rfl)
  ·exact h.elim
 ·exact h.elim
def NilW (K:Eff->Prop) (p:Prop) (rd:List Nat) (neg:Bool):Prop:=(¬ p/\K ⟨.sc (.bool neg),[],rd⟩)\/K ⟨if neg then .nb True p else .nb p True,[],rd⟩
def aNil (P:Program) (lt:Nat->Option AV) (lm:Nat->Option Blk) (K:Eff->Prop) (op:BinOp) (ty:TypeId) (x:Operand):Prop :=
 isSl (P.underlying ty)=true ∧
 match ev lt x with
 | some (.sc (.slice none 0 0)) =>
  match op with
  | .eql=>K (.val (.sc (.bool true)))
  | .neq=>K (.val (.sc (.bool false)))
  | _=>False
 | some v =>
  match v.data lm with
  | some ⟨_,l⟩ =>
   match op with
   | .eql=>NilW K (l=[]) v.rows false
   | .neq=>NilW K (l=[]) v.rows true
   | _=>False
  | none=>False
 | none=>False
theorem nil_guard {ty e:TypeId} {op:BinOp} {x:Operand} {a:Option Addr} {n c0:Nat} {w:World} (hu:P.underlying ty=some (.slice e)):(eqGuard op ty x (.const (.slice none 0 0)) (.slice a n c0) (.slice none 0 0)).run P w=.ok () w:=by
 cases op<;>simp [eqGuard,run_underlying hu,Program.eqGuardType,hu]
 all_goals (split<;>simp_all)
theorem aNil_ok {op:BinOp} {ty ty2:TypeId} {x:Operand} (ho:o.op=.binOp op ty x (.const (.slice none 0 0)) ty2) (h:aNil P lt lm K op ty x):∃ e,K e/\SOK P c lt lm nx o e:=by
 unfold aNil at h
 obtain ⟨hsl,h⟩:=h
 obtain ⟨el,hu⟩:=isSl_ex hsl
 have hrun:∀ (ac:Act) (w:World) (a:Option Addr) (n c0:Nat) (b:Bool),ac.eval x=.slice a n c0->(op=.eql/\b=a.isNone\/op=.neq/\b=!a.isNone)->(execOp ac.eval o).run P w=.ok (.value (.bool b)) w:=by
  intro ac w a n c0 b hx hb
  have hc:ac.eval (.const (.slice none 0 0))=.slice none 0 0:=rfl
  rcases hb with ⟨rfl,rfl⟩|⟨rfl,rfl⟩
  ·simp only [execOp,ho,hx,hc,Sem.run_bind,nil_guard hu,Result.andThen_ok,binOp,run_equal_slice_nil w ty el a n c0 hu,Sem.run_pure]
  ·simp only [execOp,ho,hx,hc,Sem.run_bind,nil_guard hu,Result.andThen_ok,run_neq_slice_nil w ty el a n c0 hu,Sem.run_pure]
 split at h
 ·rename_i hx
  split at h
  ·refine ⟨_,h,SOK.pure fun σ Γ ac w hs hl _=>⟨.bool true,?_,rfl,rfl,trivial⟩⟩
   have e1:ac.eval x=_:=(op_ev hs hl (by simp [ho,Op.operands]) hx:VRep c σ.mem Γ w _ (ac.eval x)).1
   exact hrun ac w none 0 0 true e1 (.inl ⟨rfl,rfl⟩)
  ·refine ⟨_,h,SOK.pure fun σ Γ ac w hs hl _=>⟨.bool false,?_,rfl,rfl,trivial⟩⟩
   have e1:ac.eval x=_:=(op_ev hs hl (by simp [ho,Op.operands]) hx:VRep c σ.mem Γ w _ (ac.eval x)).1
   exact hrun ac w none 0 0 false e1 (.inr ⟨rfl,rfl⟩)
  ·exact h.elim
 ·rename_i v hnot hx
  split at h
  ·rename_i t l hd
   have key:∀ (σ:St) (Γ:Asg) (ac:Act) (w:World),Sim c σ Γ ac w->(∀ t ∈ opnds o,look σ.tmps t=lt t)->(∀ k ∈ v.rows,look σ.mem k=lm k)->∃ ad cc,ac.eval x=.slice ad l.length cc/\(ad=none->l=[]):=by
    intro σ Γ ac w hs hl hm
    obtain ⟨ad,cc,css,fps,h1,_,_,h4,_⟩:=data_rows hs (op_ev hs hl (by simp [ho,Op.operands]) hx) hm hd
    exact ⟨ad,cc,h1,h4⟩
   split at h
   ·rcases h with ⟨hp,hK⟩|hK
    ·refine ⟨_,hK,SOK.pure fun σ Γ ac w hs hl hm=>?_⟩
     obtain ⟨ad,cc,h1,h2⟩:=key σ Γ ac w hs hl hm
     cases ad with
     | none=>exact absurd (h2 rfl) hp
     | some a=>exact ⟨.bool false,hrun ac w _ _ _ _ h1 (.inl ⟨rfl,rfl⟩),rfl,rfl,trivial⟩
    ·refine ⟨_,hK,SOK.pure fun σ Γ ac w hs hl hm=>?_⟩
     obtain ⟨ad,cc,h1,h2⟩:=key σ Γ ac w hs hl hm
     refine ⟨.bool ad.isNone,hrun ac w _ _ _ _ h1 (.inl ⟨rfl,rfl⟩),_,rfl,fun hb=>?_,fun _=>trivial⟩
     cases ad with
     | none=>exact h2 rfl
     | some a=>cases hb
   ·rcases h with ⟨hp,hK⟩|hK
    ·refine ⟨_,hK,SOK.pure fun σ Γ ac w hs hl hm=>?_⟩
     obtain ⟨ad,cc,h1,h2⟩:=key σ Γ ac w hs hl hm
     cases ad with
     | none=>exact absurd (h2 rfl) hp
     | some a=>exact ⟨.bool true,hrun ac w _ _ _ _ h1 (.inr ⟨rfl,rfl⟩),rfl,rfl,trivial⟩
    ·refine ⟨_,hK,SOK.pure fun σ Γ ac w hs hl hm=>?_⟩
     obtain ⟨ad,cc,h1,h2⟩:=key σ Γ ac w hs hl hm
     refine ⟨.bool (!ad.isNone),hrun ac w _ _ _ _ h1 (.inr ⟨rfl,rfl⟩),_,rfl,fun _=>trivial,fun hb=>?_⟩
     cases ad with
     | none=>exact h2 rfl
     | some a=>cases hb
   ·exact h.elim
  ·exact h.elim
 ·exact h.elim
theorem evs2 {σ:St} {Γ:Asg} {ac:Act} {w:World} (hs:Sim c σ Γ ac w) {xs:List Operand} {u v:Value} (hl:∀ x ∈ xs,∀ t,x=.tmp t->look σ.tmps t=lt t) (h:evs lt xs=some [.sc u,.sc v]):xs.map ac.eval=[u,v]/\okv u/\okv v:=by
 have h2:=evs_rep hs hl h (by rfl)
 match xs,h2 with
 | [x,y],⟨h1,h2,_⟩=>exact ⟨by rw [List.map_cons,List.map_cons,h1.1,h2.1]; rfl,h1.2.2,h2.2.2⟩
theorem aMin_ok {xs:Array Operand} {tys:Array TypeId} (ho:o.op=.call { callee:=.builtin .min,args:=xs,argTypes:=tys }) (h:aMin lt K xs):∃ e,K e/\SOK P c lt lm nx o e:=by
 unfold aMin at h
 split at h
 ·rename_i a b he
  refine ⟨_,h,SOK.pure fun σ Γ ac w hs hl _=>?_⟩
  obtain ⟨e1,o1,o2⟩:=evs2 hs (fun x hx t e=>hl t (mem_opnds (x:=x) (by simp only [ho,Op.operands,Call.operands]; simpa using hx) e)) he
  have e2:xs.map ac.eval=#[.int .i64 a,.int .i64 b]:=Array.toList_inj.1 (by rw [Array.toList_map,e1])
  refine ⟨.int .i64 (min a b),?_,rfl,rfl,?_⟩
  ·have hm:(if b < a then b else a)=min a b:=by split<;>omega
   simp [execOp,ho,resolve,invoke,builtin,e2,Builtin.min_,Builtin.min2,Result.andThen,hm]
  ·show I64 (min a b)
   rcases Int.le_total a b with h|h
   ·rw [Int.min_eq_left h]; exact o1
   ·rw [Int.min_eq_right h]; exact o2
 ·exact h.elim
theorem aMax_ok {xs:Array Operand} {tys:Array TypeId} (ho:o.op=.call { callee:=.builtin .max,args:=xs,argTypes:=tys }) (h:aMax lt K xs):∃ e,K e/\SOK P c lt lm nx o e:=by
 unfold aMax at h
 split at h
 ·rename_i a b he
  refine ⟨_,h,SOK.pure fun σ Γ ac w hs hl _=>?_⟩
  obtain ⟨e1,o1,o2⟩:=evs2 hs (fun x hx t e=>hl t (mem_opnds (x:=x) (by simp only [ho,Op.operands,Call.operands]; simpa using hx) e)) he
  have e2:xs.map ac.eval=#[.int .i64 a,.int .i64 b]:=Array.toList_inj.1 (by rw [Array.toList_map,e1])
  refine ⟨.int .i64 (max a b),?_,rfl,rfl,?_⟩
  ·have hm:(if b > a then b else a)=max a b:=by split<;>omega
   simp [execOp,ho,resolve,invoke,builtin,e2,Builtin.max_,Builtin.max2,Result.andThen]
   omega
  ·show I64 (max a b)
   rcases Int.le_total a b with h|h
   ·rw [Int.max_eq_right h]; exact o2
   ·rw [Int.max_eq_left h]; exact o1
 ·exact h.elim
end
end Go.Proofs.YtffdhjnbppagjaaGreat.DW

namespace Go.Proofs.YtffdhjnbppagjaaGreat.DW
open Go.RowKit
def capD:(A:Ty)->A.den->List Dat
 | .prod A B,x=>capD A x.1++capD B x.2
 | t,x=>[⟨t,x⟩]
def CapOK (lm:Nat->Option Blk):(A:Ty)->A.den->List Nat->Prop
 | .prod A B,x,ks=>CapOK lm A x.1 (ks.take A.size)/\CapOK lm B x.2 (ks.drop A.size)
 | .ext .ref t,some y,[k]=>match lm k with
  | some (.box cs)=>Is lm t y cs
  | _=>False
 | _,_,_=>False
def boxRows (lm:Nat->Option Blk) (k:Nat):List Nat:=match lm k with
 | some (.box cs)=>k :: cellRows cs
 | _=>[k]
def rdK (lm:Nat->Option Blk):AV->List Nat
 | .clb _ ks=>ks.flatMap (boxRows lm)
 | v=>v.rows
def IsClo (lm:Nat->Option Blk):(t:Ty)->t.den->FuncId->List Nat->Prop
 | .ext (.clo g) A,some x,f,ks=>g=f/\CapOK lm A x ks
 | _,_,_,_=>False
theorem isClo_ex {lm:Nat->Option Blk}:∀ {d:Dat} {f:FuncId} {ks:List Nat},IsClo lm d.1 d.2 f ks->∃ (A:Ty) (x:A.den),d=⟨.ext (.clo f) A,some x⟩/\CapOK lm A x ks
 | ⟨.ext (.clo g) A,some x⟩,f,ks,h=>by obtain ⟨rfl,h⟩:=h; exact ⟨A,x,rfl,h⟩
 | ⟨.ext (.clo g) A,none⟩,f,ks,h=>h.elim
 | ⟨.ext .ref _,_⟩,_,_,h=>h.elim
 | ⟨.ext .opq _,_⟩,_,_,h=>h.elim
 | ⟨.int,_⟩,_,_,h=>h.elim
 | ⟨.bool,_⟩,_,_,h=>h.elim
 | ⟨.str,_⟩,_,_,h=>h.elim
 | ⟨.u8,_⟩,_,_,h=>h.elim
 | ⟨.cst _,_⟩,_,_,h=>h.elim
 | ⟨.prod _ _,_⟩,_,_,h=>h.elim
 | ⟨.slice _,_⟩,_,_,h=>h.elim
def IsC (lm:Nat->Option Blk) (d:Dat):AV->Prop
 | .clb f ks=>IsClo lm d.1 d.2 f ks
 | v=>IsV lm d v
section
variable (P:Program) (T:TypeId->Option Ty) (lt:Nat->Option AV) (lm:Nat->Option Blk) (nx:Nat) (K:Eff->Prop)
def aNilChk (x:Operand):Prop :=
 match ev lt x with
 | some (.ptr k off)=>K (.val (.ptr k off))
 | some (.ref t y off)=>K (.val (.ref t y off))
 | _=>False
def evPtrs (lt:Nat->Option AV):List Operand->Option (List Nat)
 | []=>some []
 | x :: xs=>match ev lt x,evPtrs lt xs with
  | some (.ptr k 0),some ks=>some (k :: ks)
  | _,_=>none
def aMakeClo (fn:_root_.Go.Fn) (c:List Operand):Prop :=
 match fn,evPtrs lt c with
 | .func f,some ks=>K (.val (.clb f ks))
 | _,_=>False
def aIndexArr (n:Nat) (e:TypeId) (x y:Operand):Prop :=
 match T e,ev lt x,ev lt y with
 | some t,some (.ptr k off),some (.sc (.int .i64 z))=>0<=z/\z < n/\K (.val (.ptr k (off+z.toNat * t.size)))
 | some t,some (.ref s q off),some (.sc (.int .i64 z))=>0<=z/\z < n/\K (.val (.ref s q (off+z.toNat * t.size)))
 | _,_,_=>False
def aBuildArr (ty:TypeId) (parts:Array (Nat × Operand)):Prop :=
 match T ty with
 | some t=>parts.toList=[]/\t.isAgg=true/\K (.val (.agg (zcl t)))
 | none=>False
def aMakeMap (r:Option Operand):Prop:=r=none/\K (.val (.ex .opq .int (some 0)))
def CallD (f:FuncId) (A:Ty) (x:A.den) (vs:List AV):Prop:=∃ (args:List Dat) (d:Dat),Fn P f (args++capD A x) false [d]/\d.1.flat=true/\All2 (fun v d=>IsV lm d v) vs args/\K ⟨av d.1 d.2,[],vs.flatMap AV.rows⟩
def CallK (f:FuncId) (vs:List AV):Prop:=∃ (args:List Dat) (d:Dat),Fn P f args false [d]/\d.1.flat=true/\All2 (fun v d=>IsC lm d v) vs args/\K ⟨av d.1 d.2,[],vs.flatMap (rdK lm)⟩
def hasClb:List AV->Bool
 | []=>false
 | .clb _ _ :: _=>true
 | _ :: vs=>hasClb vs
def aCall2 (fop:Operand) (xs:Array Operand):Prop :=
 match ev lt fop,evs lt xs.toList with
 | some (.ex (.clo f) A (some x)),some vs=>vs.all AV.ok=true/\CallD P lm K f A x vs
 | some (.sc (.func (.func f) fi ca)),some vs=>if hasClb vs=true then fi=#[]/\ca=#[]/\vs.all AV.ok=true/\CallK P lm K f vs else aCall P lt lm nx K fop xs
 | _,_=>False
end
section
variable {P:Program} {T:TypeId->Option Ty} {c:Cx} {lt:Nat->Option AV} {lm:Nat->Option Blk} {nx:Nat} {K:Eff->Prop} {o:Oper}
theorem aNilChk_ok {x:Operand} (ho:o.op=.nilCheck x) (h:aNilChk lt K x):∃ e,K e/\SOK P c lt lm nx o e:=by
 unfold aNilChk at h
 split at h
 ·rename_i k off hx
  refine ⟨_,h,SOK.pure fun σ Γ a w hs hl _=>?_⟩
  have hv:VRep c σ.mem Γ w (.ptr k off) (a.eval x):=op_ev hs hl (by simp [ho,Op.operands]) hx
  have e:a.eval x=_:=hv.1
  exact ⟨a.eval x,by simp [execOp,ho,e],hv⟩
 ·rename_i t y off hx
  refine ⟨_,h,SOK.pure fun σ Γ a w hs hl _=>?_⟩
  have hv:VRep c σ.mem Γ w (.ref t y off) (a.eval x):=op_ev hs hl (by simp [ho,Op.operands]) hx
  have hv':=hv
  obtain ⟨b,oo,cs,fp,e,_⟩:=hv'
  exact ⟨a.eval x,by simp [execOp,ho,e],hv⟩
 ·exact h.elim
theorem evPtrs_rep {σ:St} {Γ:Asg} {a:Act} {w:World} (hs:Sim c σ Γ a w):∀ {xs:List Operand} {ks:List Nat},(∀ x ∈ xs,∀ t,x=.tmp t->look σ.tmps t=lt t)->evPtrs lt xs=some ks →
  xs.map a.eval=ks.map (fun k=>.pointer (some ⟨Γ.β k,0,none⟩))/\∀ k ∈ ks,∃ cs,look σ.mem k=some (.box cs)
 | [],ks,_,h=>by injection h with h; subst h; exact ⟨rfl,fun k hk=>by cases hk⟩
 | x :: xs,ks,hl,h=>by
  simp only [evPtrs] at h
  split at h
  ·rename_i k ks' hx hks
   injection h with h; subst h
   obtain ⟨h1,h2⟩:=evPtrs_rep hs (fun y hy=>hl y (List.mem_cons_of_mem _ hy)) hks
   have hv:VRep c σ.mem Γ w (.ptr k 0) (a.eval x):=ev_rep hs (hl x List.mem_cons_self) hx
   obtain ⟨e,cs,hc⟩:=hv
   refine ⟨by rw [List.map_cons,List.map_cons,e,h1],fun j hj=>?_⟩
   rcases List.mem_cons.1 hj with rfl|hj
   ·exact ⟨cs,hc⟩
   ·exact h2 j hj
  ·cases h
theorem aMakeClo_ok {fn:_root_.Go.Fn} {f cc:Array Operand} (ho:o.op=.makeFunc fn f cc) (hf:f=#[]) (h:aMakeClo lt K fn cc.toList):∃ e,K e/\SOK P c lt lm nx o e:=by
 subst hf
 unfold aMakeClo at h
 split at h
 ·rename_i g ks hks
  refine ⟨_,h,SOK.pure fun σ Γ a w hs hl _=>?_⟩
  obtain ⟨h1,h2⟩:=evPtrs_rep hs (fun x hx t e=>hl t (mem_opnds (by simp only [ho,Op.operands]; simp; simpa using hx) e)) hks
  refine ⟨.func (.func g) #[] (ks.map fun k=>.pointer (some ⟨Γ.β k,0,none⟩)).toArray,?_,rfl,h2⟩
  have:cc.map a.eval=(cc.toList.map a.eval).toArray:=Array.toList_inj.1 (by rw [Array.toList_map])
  simp only [execOp,ho,Instr.makeFunc,Sem.run_bind,Sem.run_pure,Result.andThen_ok,this,h1]
  simp
 ·exact h.elim
theorem aIndexArr_ok (hT:TabOK P T) {ty e:TypeId} {n:Nat} {x y:Operand} (hu:P.underlying ty=some (.array n e)) (ho:o.op=.indexAddr ty x y) (h:aIndexArr T lt K n e x y):∃ e,K e/\SOK P c lt lm nx o e:=by
 unfold aIndexArr at h
 have key:∀ (t:Ty) (b off:Nat) (z:Int) (a:Act) (w:World),T e=some t->a.eval x=.pointer (some ⟨b,off,none⟩)->a.eval y=.int .i64 z->0<=z->z < n->(execOp a.eval o).run P w=.ok (.value (.pointer (some ⟨b,off+z.toNat * t.size,none⟩))) w:=by
  intro t b off z a w ht e1 e2 h0 hz
  have hsz:=(hT e t ht).sizeOf w
  simp only [execOp,ho,e1,e2,Instr.indexAt,Instr.sureAddr,asIntOf,Sem.run_bind,Sem.run_pure,Result.andThen_ok,run_underlying hu,hsz]
  rw [if_pos ⟨h0,hz⟩]
  simp only [Sem.run_bind,Sem.run_pure,Result.andThen_ok,addr_add,hsz]
 split at h
 ·rename_i t k off z ht hx hy
  obtain ⟨h0,hz,hK⟩:=h
  refine ⟨_,hK,SOK.pure fun σ Γ a w hs hl _=>?_⟩
  obtain ⟨e1,cs,hc⟩:=(op_ev hs hl (by simp [ho,Op.operands]) hx:VRep c σ.mem Γ w _ (a.eval x))
  have e2:a.eval y=_:=(op_ev hs hl (by simp [ho,Op.operands]) hy:VRep c σ.mem Γ w _ (a.eval y)).1
  exact ⟨_,key t _ _ z a w ht e1 e2 h0 hz,rfl,cs,hc⟩
 ·rename_i t s q off z ht hx hy
  obtain ⟨h0,hz,hK⟩:=h
  refine ⟨_,hK,SOK.pure fun σ Γ a w hs hl _=>?_⟩
  obtain ⟨b,oo,cs,fp,e1,hr,hrest⟩:=(op_ev hs hl (by simp [ho,Op.operands]) hx:VRep c σ.mem Γ w _ (a.eval x))
  have e2:a.eval y=_:=(op_ev hs hl (by simp [ho,Op.operands]) hy:VRep c σ.mem Γ w _ (a.eval y)).1
  exact ⟨_,key t _ _ z a w ht e1 e2 h0 hz,b,oo,cs,fp,by rw [Nat.add_assoc],hr,hrest⟩
 ·exact h.elim
theorem aBuildArr_ok (hT:TabOK P T) {ty e:TypeId} {n:Nat} {parts:Array (Nat × Operand)} (hu:P.underlying ty=some (.array n e)) (hes:(T e).isSome=true) (ho:o.op=.build ty parts) (h:aBuildArr T K ty parts):∃ e,K e/\SOK P c lt lm nx o e:=by
 unfold aBuildArr at h
 split at h
 ·rename_i t ht
  obtain ⟨hp,hag,hK⟩:=h
  refine ⟨_,hK,SOK.pure fun σ Γ a w hs hl _=>?_⟩
  obtain ⟨i,dd,hi1,hi2,hi3,_,_⟩:=hT _ _ ht
  obtain ⟨te,hte⟩:=Option.isSome_iff_exists.1 hes
  have hse:=(hT _ _ hte).sizeOf w
  have hpe:parts=#[]:=Array.toList_inj.1 hp
  have hz:(zeroValue ty).run P w=.ok t.zv w:=by
   simp [zeroValue,typeInfo,hi1,hi3]
  refine ⟨.agg t.zc.toArray,?_,_,rfl,zcl_rep t⟩
  simp [execOp,ho,hpe,Instr.build,hz,run_underlying hu,hse,Instr.fill,zv_cells]
 ·exact h.elim
theorem aMakeMap_ok {t:TypeId} {r:Option Operand} (ho:o.op=.makeMap t r) (h:aMakeMap K r):∃ e,K e/\SOK P c lt lm nx o e:=by
 obtain ⟨rfl,hK⟩:=h
 refine ⟨_,hK,(fun p hp=>by cases hp),fun σ Γ a w hs hl hm _ hd K Q hK=>?_⟩
 have hrun:(execOp a.eval o).run P w=.ok (.value (.map (some w.heap.size))) (w.alloc (.map #[] 0)):=by
  simp [execOp,ho,Instr.makeMap]
 refine wp_value hrun (hK Γ _ _ ?_)
 have hs':=hs.frame (below_alloc w (.map #[] 0))
 have hv:VRep c σ.mem Γ (w.alloc (.map #[] 0)) (.ex .opq .int (some (0:Int))) (.map (some w.heap.size)):=⟨[],⟨_,rfl,rfl,rfl⟩,fun b hb=>by cases hb⟩
 have:=hs'.put (d:=o.dst) hv (fun x hx=>hd x hx)
 unfold St.app
 cases hdst:o.dst<;>simp only [hdst,St.put] at this ⊢<;>exact this
theorem cap_dat {w:World}:∀ {A:Ty} {x:A.den} {cs:List Value} {fp:List Nat},A.rp.rep w cs x fp->All2 (fun v d=>∃ fp,DRep w v d fp/\∀ b ∈ fp,(fun _=>True) b) cs (capD A x):=by
 intro A
 induction A with
 | prod A B ihA ihB =>
  intro x cs fp h
  obtain ⟨c1,c2,f1,f2,rfl,rfl,h1,h2⟩:=h
  exact (ihA h1).app (ihB h2)
 | _ =>
  intro x cs fp h
  have hl:=(Ty.rp _).len h
  rw [Ty.rp_size] at hl
  match cs,hl with
  | [v],_=>exact ⟨⟨fp,⟨[v],.inr ⟨rfl,rfl⟩,h⟩,fun _ _=>trivial⟩,trivial⟩
theorem cap_rep {σ:St} {Γ:Asg} {a:Act} {w:World} (hs:Sim c σ Γ a w):∀ {A:Ty} {x:A.den} {ks:List Nat},CapOK (look σ.mem) A x ks->∃ fp,A.rp.rep w (ks.map fun k=>.pointer (some ⟨Γ.β k,0,none⟩)) x fp:=by
 intro A
 induction A with
 | prod A B ihA ihB =>
  intro x ks h
  obtain ⟨f1,h1⟩:=ihA h.1
  obtain ⟨f2,h2⟩:=ihB h.2
  exact ⟨f1++f2,_,_,f1,f2,by rw [<-List.map_append,List.take_append_drop],rfl,h1,h2⟩
 | ext e t _ =>
  intro x ks h
  cases e with
  | ref =>
   cases x with
   | none=>exact h.elim
   | some y =>
    match ks,h with
    | [k],h =>
     have h:(match look σ.mem k with
      | some (.box cs)=>Is (look σ.mem) t y cs
      | _=>False):=h
     split at h
     ·rename_i cs hk
      obtain ⟨us,e,hg,hc⟩:=box_cell hs hk
      obtain ⟨fp,hr,_⟩:=hs.isRep hc h
      refine ⟨Γ.β k :: fp,Γ.β k,0,us.toList,fp,rfl,rfl,hr,fun j v hv=>?_⟩
      rw [Nat.zero_add,cell_of_row w _ _ us e (0,0) hg,<-Array.getElem?_toList]; exact hv
     ·exact h.elim
    | [],h=>exact h.elim
    | _ :: _ :: _,h=>exact h.elim
  | _=>exact h.elim
 | _=>intro x ks h; exact h.elim
theorem CapOK_congr {lm lm':Nat->Option Blk}:∀ {A:Ty} {x:A.den} {ks:List Nat},(∀ k ∈ ks.flatMap (boxRows lm),lm' k=lm k)->CapOK lm A x ks->CapOK lm' A x ks:=by
 intro A
 induction A with
 | prod A B ihA ihB =>
  intro x ks hc h
  exact ⟨ihA (fun k hk=>hc k (by obtain ⟨j,hj,hk⟩:=List.mem_flatMap.1 hk; exact List.mem_flatMap.2 ⟨j,List.mem_of_mem_take hj,hk⟩)) h.1,
   ihB (fun k hk=>hc k (by obtain ⟨j,hj,hk⟩:=List.mem_flatMap.1 hk; exact List.mem_flatMap.2 ⟨j,List.mem_of_mem_drop hj,hk⟩)) h.2⟩
 | ext e t _ =>
  intro x ks hc h
  cases e with
  | ref =>
   cases x with
   | none=>exact h.elim
   | some y =>
    match ks,hc,h with
    | [k],hc,h =>
     have h:(match lm k with
      | some (.box cs)=>Is lm t y cs
      | _=>False):=h
     show (match lm' k with
      | some (.box cs)=>Is lm' t y cs
      | _=>False)
     split at h
     ·rename_i cs hk
      have h1:lm' k=lm k:=hc k (by simp [boxRows,hk])
      rw [h1,hk]
      exact Is_congr (fun j hj=>hc j (by simp [boxRows,hk,hj])) h
     ·exact h.elim
    | [],_,h=>exact h.elim
    | _ :: _ :: _,_,h=>exact h.elim
  | _=>exact h.elim
 | _=>intro x ks _ h; exact h.elim
theorem all2_datC {w:World} {a:Act} {M:Mm} {Γ:Asg} {lm':Nat->Option Blk}:∀ {vs:List AV} {xs:List Operand} {args:List Dat},All2 (fun v x=>ARep c M Γ w v (a.eval x)) vs xs->All2 (fun v d=>IsC lm' d v) vs args →
  (∀ v d u,v ∈ vs->ARep c M Γ w v u->IsC lm' d v->∃ fp,DRep w u d fp/\∀ b ∈ fp,(fun _=>True) b)->All2 (fun v d=>∃ fp,DRep w v d fp/\∀ b ∈ fp,(fun _=>True) b) (xs.map a.eval) args
 | [],[],[],_,_,_=>trivial
 | v :: vs,x :: xs,d :: args,⟨h1,h2⟩,⟨h3,h4⟩,hf=>⟨hf v d _ List.mem_cons_self h1 h3,all2_datC h2 h4 fun v d u hv=>hf v d u (List.mem_cons_of_mem _ hv)⟩
 | [],_ :: _,_,h,_,_=>h.elim
 | [],[],_ :: _,_,h,_=>h.elim
 | _ :: _,[],_,h,_,_=>h.elim
 | _ :: _,_ :: _,[],_,h,_=>h.elim
theorem flat_end {σ:St} {Γ:Asg} {a:Act} {w w':World} {d:Dat} {u:Value} {fp:List Nat} {rows:List Nat} {Kc:Act->World->Prop} (hs:Sim c σ Γ a w) (hb:Below w.heap.size w w') (hfl:d.1.flat=true) (hdr:DRep w' u d fp) (hd:∀ x,o.dst=some x->x < c.n)
  (hK:∀ Γ' a' w',Sim c (σ.app o.dst ⟨av d.1 d.2,[],rows⟩) Γ' a' w'->Kc a' w'):Kc (a.put o.dst u) w':=by
 have hs':=hs.frame hb
 obtain ⟨cs,hpk,hrp⟩:=hdr
 have hf0:=flat_rep hfl hrp
 subst hf0
 have hv:VRep c σ.mem Γ w' (av d.1 d.2) u:=arep_vrep (av_rep ⟨cs,hpk,hrp⟩ fun b hbb=>by cases hbb)
 refine hK Γ _ _ ?_
 have:=hs'.put (d:=o.dst) hv (fun x hx=>hd x hx)
 unfold St.app
 cases hdst:o.dst<;>simp only [hdst,St.put] at this ⊢<;>exact this
theorem aCallK_ok {fop:Operand} {xs:Array Operand} {tys:Array TypeId} (ho:o.op=.call { callee:=.value fop,args:=xs,argTypes:=tys }) {f:FuncId} {vs:List AV} (hf:ev lt fop=some (.sc (.func (.func f) #[] #[]))) (hvs:evs lt xs.toList=some vs) (hok:vs.all AV.ok=true) (h:CallK P lm K f vs):∃ e,K e/\SOK P c lt lm nx o e:=by
 obtain ⟨args,d,hfn,hfl,hargs,hK⟩:=h
 refine ⟨_,hK,(fun p hp=>by cases hp),fun σ Γ a w hs hl hm hn hd K Q hK=>?_⟩
 obtain ⟨hr,hv⟩:=call_run ho hf hvs hok hfn.1 σ Γ a w hs hl
 unfold Oper.wp
 rw [hr,Oper.upon_enter]
 have hma:xs.map a.eval=(xs.toList.map a.eval).toArray:=Array.toList_inj.1 (by rw [Array.toList_map])
 rw [hma]
 have hrd:∀ v ∈ vs,∀ k ∈ rdK lm v,look σ.mem k=lm k:=fun v hv k hk=>hm k (List.mem_flatMap.2 ⟨v,hv,hk⟩)
 have hda:=all2_datC hv hargs (fun v d u hvm hvr hi=>by
  have hrv:=hrd v hvm
  cases v with
  | clb g ks =>
   obtain ⟨A,x,rfl,hc⟩:=isClo_ex hi
   obtain ⟨rfl,_⟩:=hvr
   obtain ⟨fp,hrp⟩:=cap_rep hs (CapOK_congr (lm':=look σ.mem) hrv hc)
   exact ⟨fp,⟨_,.inr ⟨rfl,rfl⟩,_,rfl,hrp⟩,fun _ _=>trivial⟩
  | _ =>
   obtain ⟨fp,h1,_⟩:=hs.isVRep hvr (IsV_congr (d:=d) hrv hi)
   exact ⟨fp,h1,fun _ _=>trivial⟩)
 refine (hfn.2 w _ _ hda).mono ?_
 rintro e w' ⟨hb,u,rfl,fp,hdr,_,_⟩
 exact flat_end hs hb hfl hdr hd hK
theorem aCallD_ok {fop:Operand} {xs:Array Operand} {tys:Array TypeId} (ho:o.op=.call { callee:=.value fop,args:=xs,argTypes:=tys }) {f:FuncId} {A:Ty} {x:A.den} {vs:List AV} (hf:ev lt fop=some (.ex (.clo f) A (some x))) (hvs:evs lt xs.toList=some vs) (hok:vs.all AV.ok=true) (h:CallD P lm K f A x vs):∃ e,K e/\SOK P c lt lm nx o e:=by
 obtain ⟨args,d,hfn,hfl,hargs,hK⟩:=h
 refine ⟨_,hK,(fun p hp=>by cases hp),fun σ Γ a w hs hl hm hn hd K Q hK=>?_⟩
 have hl':∀ x ∈ o.op.operands.toList,∀ t,x=.tmp t->look σ.tmps t=lt t:=fun x hx t e=>hl t (mem_opnds hx e)
 obtain ⟨fpc,hrc,_⟩:=(ev_rep hs (hl' fop (by simp [ho,Op.operands,Call.operands])) hf:VRep c σ.mem Γ w _ (a.eval fop))
 obtain ⟨cs',e1,hrc⟩:=hrc
 injection e1 with e1
 have hv:=evs_rep hs (fun x hx=>hl' x (by simp only [ho,Op.operands,Call.operands]; simp; exact .inr (by simpa using hx))) hvs hok
 have hma:xs.map a.eval=(xs.toList.map a.eval).toArray:=Array.toList_inj.1 (by rw [Array.toList_map])
 have hr:(execOp a.eval o).run P w=.ok (.enter f (xs.toList.map a.eval++cs').toArray) w:=by
  have h0:=hfn.1 (xs.map a.eval++cs'.toArray) w
  rw [hma] at h0
  simp [execOp,ho,resolve,e1,Deferred.ofValue,invoke]
  rw [hma]
  simpa using h0
 unfold Oper.wp
 rw [hr,Oper.upon_enter]
 have hrows:∀ v ∈ vs,∀ k ∈ v.rows,look σ.mem k=lm k:=fun v hv k hk=>hm k (List.mem_flatMap.2 ⟨v,hv,hk⟩)
 have hda:=(all2_dat (S:=fun _=>True) hv hargs (fun v d u hvm hvr hi=>by
  obtain ⟨fp,h1,_⟩:=hs.isVRep hvr (IsV_congr (hrows v hvm) hi)
  exact ⟨fp,h1,fun _ _=>trivial⟩)).app (cap_dat hrc)
 refine (hfn.2 w _ _ hda).mono ?_
 rintro e w' ⟨hb,u,rfl,fp,hdr,_,_⟩
 exact flat_end hs hb hfl hdr hd hK
theorem aCall2_ok (hnx:∀ k,nx<=k->lm k=none) {fop:Operand} {xs:Array Operand} {tys:Array TypeId} (ho:o.op=.call { callee:=.value fop,args:=xs,argTypes:=tys }) (h:aCall2 P lt lm nx K fop xs):∃ e,K e/\SOK P c lt lm nx o e:=by
 unfold aCall2 at h
 split at h
 ·rename_i f A x vs hf hvs
  exact aCallD_ok ho hf hvs h.1 h.2
 ·rename_i f fi ca vs hf hvs
  split at h
  ·obtain ⟨rfl,rfl,hok,h⟩:=h
   exact aCallK_ok ho hf hvs hok h
  ·exact aCall_ok hnx ho h
 ·exact h.elim
end
end Go.Proofs.YtffdhjnbppagjaaGreat.DW

namespace Go.Proofs.YtffdhjnbppagjaaGreat.DW
open Go.RowKit
section
variable (P:Program) (T:TypeId->Option Ty) (lt:Nat->Option AV) (lm:Nat->Option Blk) (nx:Nat) (K:Eff->Prop)
def aStep (o:Oper):Prop :=
 match o.op with
 | .move x=>aMove lt K x
 | .assign x=>aMove lt K x
 | .pick x y z=>aPick lt K x y z
 | .box _ x=>aBox lt nx K x
 | .alloc t=>aAlloc T nx K t
 | .load t x=>aLoad T lt lm K t x
 | .store t x y =>
  match ev lt x with
  | some (.elm ..)=>aStoreRow T lt lm K t x y
  | _=>aStoreBox T lt lm K t x y
 | .fieldAddr s x f=>aFieldAddr P T lt lm K s x f
 | .field s x f=>aField P T lt K s x f
 | .indexAddr t x y =>
  match P.underlying t with
  | some (.array n e)=>aIndexArr T lt K n e x y
  | _=>aIndexAddr P T lt lm K t x y
 | .nilCheck x=>aNilChk lt K x
 | .makeMap _ r=>aMakeMap K r
 | .binOp op t x y _ =>
  match y with
  | .const (.slice none 0 0)=>aNil P lt lm K op t x
  | _=>aBin P lt K op t x y
 | .unOp op _ x=>aUn lt K op x
 | .convert s d x=>aConv P lt K s d x
 | .extract x i=>aExtract lt K x i
 | .build t ps =>
  match P.underlying t with
  | some (.array _ e)=>(T e).isSome=true/\aBuildArr T K t ps
  | _=>aBuild P T lt K t ps
 | .buildSlice t n ps=>aBuildSlice P T lt lm nx K t n ps
 | .makeSlice t x y=>aMakeSlice P T lt nx K t x y
 | .slice t x lo hi mx=>aSlice P T lt lm K t x lo hi mx
 | .makeFunc fn f c =>
  match c.toList with
  | []=>f=#[]/\K (.val (.sc (.func fn #[] #[])))
  | _=>f=#[]/\aMakeClo lt K fn c.toList
 | .call { callee,args,argTypes } =>
  match callee with
  | .value f=>aCall2 P lt lm nx K f args
  | .builtin b =>
   match b,args.toList,argTypes.toList with
   | .len,[x],[t]=>aLen P lt lm K t x
   | .append,[x,y],[t,u]=>t=u/\aAppend P T lt lm nx K t x y
   | .min,_,_=>aMin lt K args
   | .max,_,_=>aMax lt K args
   | _,_,_=>False
  | _=>False
 | _=>False
end
theorem toList1 {α:Type} {a:Array α} {l:List α} (h:a.toList=l):a=l.toArray:=Array.toList_inj.1 (by rw [h])
theorem aStep_ok {P:Program} {T:TypeId->Option Ty} {c:Cx} {lt:Nat->Option AV} {lm:Nat->Option Blk} {nx:Nat} {K:Eff->Prop} {o:Oper} (hT:TabOK P T) (hnx:∀ k,nx<=k->lm k=none) (h:aStep P T lt lm nx K o):∃ e,K e/\SOK P c lt lm nx o e:=by
 unfold aStep at h
 split at h
 ·rename_i x ho; exact aMove_ok (.inl ho) h
 ·rename_i x ho; exact aMove_ok (.inr ho) h
 ·rename_i x y z ho; exact aPick_ok ho h
 ·rename_i t x ho; exact aBox_ok ho h
 ·rename_i t ho; exact aAlloc_ok hT ho h
 ·rename_i t x ho; exact aLoad_ok hT ho h
 ·rename_i t x y ho
  split at h
  ·exact aStoreRow_ok hT ho h
  ·exact aStoreBox_ok hT ho h
 ·rename_i s x f ho; exact aFieldAddr_ok hT ho h
 ·rename_i s x f ho; exact aField_ok hT ho h
 ·rename_i t x y ho
  split at h
  ·rename_i n e hu; exact aIndexArr_ok hT hu ho h
  ·exact aIndexAddr_ok hT ho h
 ·rename_i x ho; exact aNilChk_ok ho h
 ·rename_i t r ho; exact aMakeMap_ok ho h
 ·rename_i op t x y u ho
  split at h
  ·exact aNil_ok ho h
  ·exact aBin_ok ho h
 ·rename_i op u x ho; exact aUn_ok ho h
 ·rename_i s d x ho; exact aConv_ok ho h
 ·rename_i x i ho; exact aExtract_ok ho h
 ·rename_i t ps ho
  split at h
  ·rename_i n e hu; exact aBuildArr_ok hT hu h.1 ho h.2
  ·exact aBuild_ok hT ho h
 ·rename_i t n ps ho; exact aBuildSlice_ok hT hnx ho h
 ·rename_i t x y ho; exact aMakeSlice_ok hT ho h
 ·rename_i t x lo hi mx ho; exact aSlice_ok hT ho h
 ·rename_i fn f cc ho
  split at h
  ·rename_i hc
   obtain ⟨rfl,hK⟩:=h
   obtain rfl:cc=#[]:=Array.toList_inj.1 hc
   refine ⟨_,hK,SOK.pure fun σ Γ a w hs hl _=>⟨.func fn #[] #[],?_,rfl,rfl,trivial⟩⟩
   simp [execOp,ho,Instr.makeFunc]
  ·exact aMakeClo_ok ho h.1 h.2
 ·rename_i callee args argTypes ho
  split at h
  ·exact aCall2_ok hnx ho h
  ·split at h
   ·rename_i x t h1 h2
    rw [toList1 h1,toList1 h2] at ho
    exact aLen_ok ho h
   ·rename_i x y t u h1 h2
    obtain ⟨rfl,h⟩:=h
    rw [toList1 h1,toList1 h2] at ho
    exact aAppend_ok hT hnx ho h
   ·exact aMin_ok ho h
   ·exact aMax_ok ho h
   ·exact h.elim
  ·exact h.elim
 ·exact h.elim
def fresh (M:Mm):Nat:=M.foldr (fun p n=>max (p.1+1) n) 0
theorem look_fresh {M:Mm}:∀ {k:Nat},fresh M<=k->look M k=none:=by
 induction M with
 | nil=>intros; rfl
 | cons p M ih =>
  obtain ⟨j,B⟩:=p
  intro k h
  simp only [fresh,List.foldr_cons] at h
  have hm:fresh M<=k:=by simp only [fresh]; omega
  rw [look_ne _ _ (by omega),ih hm]
def gslot (ops:List Oper) (j:Nat):Option Nat:=(ops[j]?).bind (·.dst)
abbrev Tr:=List (List Nat × List Nat)
def Eff.te (e:Eff):List Nat × List Nat:=(e.mems.map (·.1),e.mems.map (·.1)++e.rd)
def Eff.skip:Eff:=⟨.tup [],[],[]⟩
def dstOK (n:Nat) (o:Oper):Prop:=match o.dst with|some d=>d < n|none=>True
section
variable (P:Program) (T:TypeId->Option Ty) (n:Nat) (ops:List Oper)
def AO:List Oper->St->Tr->(St->Tr->Prop)->Prop
 | [],σ,tr,Q=>Q σ tr
 | o :: os,σ,tr,Q =>
  dstOK n o ∧
  match o.guard with
  | none=>aStep P T (look σ.tmps) (look σ.mem) (fresh σ.mem) (fun e=>AO os (σ.app o.dst e) (tr++[e.te]) Q) o
  | some (j,want) =>
   match gslot ops j with
   | some g =>
    match look σ.tmps g with
    | some (.sc (.bool b)) =>
     (b=want->aStep P T (look ((g,.sc (.bool want)) :: σ.tmps)) (look σ.mem) (fresh σ.mem) (fun e=>AO os (St.app ⟨(g,.sc (.bool want)) :: σ.tmps,σ.mem⟩ o.dst e) (tr++[e.te]) Q) o) ∧
     (b=!want->AO os (St.app ⟨(g,.sc (.bool (!want))) :: σ.tmps,σ.mem⟩ o.dst .skip) (tr++[Eff.te .skip]) Q)
    | some (.tup _)=>AO os (σ.app o.dst .skip) (tr++[Eff.te .skip]) Q
    | _=>False
   | none=>False
end
def Same (σ σ':St):Prop:=(∀ d,look σ'.tmps d=look σ.tmps d)/\∀ k,look σ'.mem k=look σ.mem k
theorem Mut_same {M M':Mm} {Γ:Asg} (h:∀ k,look M' k=look M k) {b:Nat}:Mut M' Γ b ↔ Mut M Γ b:=by
 unfold Mut
 constructor<;>rintro ⟨k,B,hk,hm⟩
 ·exact ⟨k,B,by rw [<-h]; exact hk,hm⟩
 ·exact ⟨k,B,by rw [h]; exact hk,hm⟩
theorem Gd_same {c:Cx} {M M':Mm} {Γ:Asg} (h:∀ k,look M' k=look M k) {b:Nat} (hg:Gd c M Γ b):Gd c M' Γ b:=⟨hg.1,fun hm=>hg.2 ((Mut_same h).1 hm)⟩
theorem crep_same {c:Cx} {M M':Mm} {Γ:Asg} {w:World} (h:∀ k,look M' k=look M k) {v:AV} {u:Value} (hv:CRep c M Γ w v u):CRep c M' Γ w v u:=by
 cases v with
 | sl t l=>obtain ⟨fp,hr,hg⟩:=hv; exact ⟨fp,hr,fun b hb=>Gd_same h (hg b hb)⟩
 | ex e t x=>obtain ⟨fp,hr,hg⟩:=hv; exact ⟨fp,hr,fun b hb=>Gd_same h (hg b hb)⟩
 | clb f ks=>obtain ⟨rfl,hk⟩:=hv; exact ⟨rfl,fun k hj=>by obtain ⟨cs,hc⟩:=hk k hj; exact ⟨cs,by rw [h]; exact hc⟩⟩
 | row k ver =>
  obtain ⟨h1,B,hB,hh⟩:=hv
  refine ⟨h1,B,by rw [h]; exact hB,?_⟩
  cases B with
  | froz t v l=>intro e; obtain ⟨fp,hr,hg⟩:=hh e; exact ⟨fp,hr,fun b hb=>Gd_same h (hg b hb)⟩
  | _=>exact hh
 | ptr k off=>obtain ⟨rfl,cs,hc⟩:=hv; exact ⟨rfl,cs,by rw [h]; exact hc⟩
 | elm k ver i off=>obtain ⟨h1,B,hB,hh⟩:=hv; exact ⟨h1,B,by rw [h]; exact hB,hh⟩
 | ref t x off=>obtain ⟨b,o,cs,fp,rfl,hr,hc,hgb,hg,hl⟩:=hv; exact ⟨b,o,cs,fp,rfl,hr,hc,Gd_same h hgb,fun b' hb'=>Gd_same h (hg b' hb'),hl⟩
 | _=>exact hv
theorem Sim.same {c:Cx} {σ σ':St} {Γ:Asg} {a:Act} {w:World} (h:Sim c σ Γ a w) (hs:Same σ σ'):Sim c σ' Γ a w:=by
 obtain ⟨h1,h2⟩:=hs
 have hcr:∀ v u,CRep c σ.mem Γ w v u->CRep c σ'.mem Γ w v u:=fun v u=>crep_same h2
 refine ⟨fun d v hd=>?_,fun k B hk=>?_,fun k k' B B' b hk hk'=>?_,fun k k' B B' b hk hk'=>?_,h.below,h.hb,h.defs,h.sz⟩
 ·obtain ⟨u,e1,e2⟩:=h.tm d v (by rw [<-h1]; exact hd); exact ⟨u,e1,vrep_mono hcr e2⟩
 ·have hold:=h.mm k B (by rw [<-h2]; exact hk)
  cases B with
  | box cs=>obtain ⟨e1,us,e,e2,e3⟩:=hold; exact ⟨e1,us,e,e2,e3.mono fun v u _=>hcr v u⟩
  | row e t v o l=>obtain ⟨fps,e1,e2,e3,e4⟩:=hold; exact ⟨fps,e1,e2,fun b hb=>Gd_same h2 (e3 b hb),e4⟩
  | odat t l=>exact ⟨hold.1,fun b hb=>Gd_same h2 (hold.2.1 b hb),hold.2.2⟩
  | mine t l=>exact hold
  | _=>trivial
 ·exact h.inj k k' B B' b (by rw [<-h2]; exact hk) (by rw [<-h2]; exact hk')
 ·exact h.disj k k' B B' b (by rw [<-h2]; exact hk) (by rw [<-h2]; exact hk')
theorem same_ref {σ:St} {g:Nat} {v:AV} (h:look σ.tmps g=some v):Same σ ⟨(g,v) :: σ.tmps,σ.mem⟩:=by
 refine ⟨fun d=>?_,fun k=>rfl⟩
 by_cases hd:d=g
 ·subst hd; rw [look_self,h]
 ·rw [look_ne _ _ hd]
def Went (P:Program) (c:Cx) (ops:List Oper) (σ:St) (o:Oper) (e:Eff):Prop :=
 (∀ d,o.dst=some d->d < c.n) ∧
 match o.guard with
 | none=>∃ nx,(∀ k,nx<=k->look σ.mem k=none)/\SOK P c (look σ.tmps) (look σ.mem) nx o e
 | some (j,want)=>∃ g,gslot ops j=some g/\((∃ b,look σ.tmps g=some (.sc (.bool b)) ∧
   (b=want/\(∃ nx,(∀ k,nx<=k->look σ.mem k=none)/\SOK P c (look σ.tmps) (look σ.mem) nx o e)\/b=(!want)/\e=.skip))\/(∃ vs,look σ.tmps g=some (.tup vs))/\e=.skip)
def runEs (σ:St):List (Oper × Eff)->St
 | []=>σ
 | (o,e) :: l=>runEs (σ.app o.dst e) l
inductive Went' (P:Program) (c:Cx) (ops:List Oper):St->List Oper->List Eff->Prop
 | nil (σ):Went' P c ops σ [] []
 | cons {σ o os e es}:Went P c ops σ o e->Went' P c ops (σ.app o.dst e) os es->Went' P c ops σ (o :: os) (e :: es)
theorem SOK.same {P:Program} {c:Cx} {lt lt':Nat->Option AV} {lm lm':Nat->Option Blk} {nx:Nat} {o:Oper} {e:Eff} (h1:∀ d,lt' d=lt d) (h2:∀ k,lm' k=lm k) (h:SOK P c lt lm nx o e):SOK P c lt' lm' nx o e:=by
 have:lt'=lt:=funext h1
 have:lm'=lm:=funext h2
 subst lt' lm'
 exact h
theorem app_same {σ σ':St} (h:Same σ σ') (d:Option Nat) (e:Eff):Same (σ.app d e) (σ'.app d e):=by
 obtain ⟨h1,h2⟩:=h
 cases d with
 | none=>exact ⟨h1,fun k=>by simp only [St.app,look_app,h2]⟩
 | some d=>exact ⟨fun x=>by simp only [St.app,look_cons,h1],fun k=>by simp only [St.app,look_app,h2]⟩
theorem AO_went {P:Program} {T:TypeId->Option Ty} {c:Cx} (hT:TabOK P T) {ops:List Oper}:∀ {os:List Oper} {σ σ0:St} {tr:Tr} {Q:St->Tr->Prop},AO P T c.n ops os σ tr Q->Same σ0 σ →
  ∃ es σ',Went' P c ops σ0 os es/\Q σ' (tr++es.map Eff.te)/\Same (runEs σ0 (os.zip es)) σ'
 | [],σ,σ0,tr,Q,h,hs=>⟨[],σ,.nil _,by simpa using (show Q σ tr from h),hs⟩
 | o :: os,σ,σ0,tr,Q,h,hs=>by
  obtain ⟨hd,h⟩:=h
  have hd':∀ d,o.dst=some d->d < c.n:=fun d e=>by rw [dstOK,e] at hd; exact hd
  split at h
  ·rename_i hg
   obtain ⟨e,hK,hsok⟩:=aStep_ok (c:=c) hT (fun k hk=>look_fresh hk) h
   obtain ⟨es,σ',h1,h2,h3⟩:=AO_went hT hK (app_same hs o.dst e)
   refine ⟨e :: es,σ',.cons ⟨hd',?_⟩ h1,by simpa using h2,h3⟩
   rw [hg]
   exact ⟨fresh σ.mem,fun k hk=>by rw [<-hs.2]; exact look_fresh hk,hsok.same (fun d=>(hs.1 d).symm) (fun k=>(hs.2 k).symm)⟩
  ·rename_i j want hg
   split at h
   ·rename_i g hgs
    split at h
    ·rename_i b hb
     have hb0:look σ0.tmps g=some (.sc (.bool b)):=by rw [<-hs.1]; exact hb
     by_cases hbw:b=want
     ·have hs':Same σ0 ⟨(g,.sc (.bool want)) :: σ.tmps,σ.mem⟩:=⟨fun d=>((same_ref (v:=.sc (.bool want)) (hbw ▸ hb)).1 d).trans (hs.1 d),hs.2⟩
      obtain ⟨e,hK,hsok⟩:=aStep_ok (c:=c) hT (fun k hk=>look_fresh hk) (h.1 hbw)
      obtain ⟨es,σ',h1,h2,h3⟩:=AO_went hT hK (app_same hs' o.dst e)
      refine ⟨e :: es,σ',.cons ⟨hd',?_⟩ h1,by simpa using h2,h3⟩
      rw [hg]
      exact ⟨g,hgs,.inl ⟨b,hb0,.inl ⟨hbw,fresh σ.mem,fun k hk=>by rw [<-hs.2]; exact look_fresh hk,hsok.same (fun d=>(hs'.1 d).symm) (fun k=>(hs'.2 k).symm)⟩⟩⟩
     ·have hbw':b=!want:=by cases b<;>cases want<;>simp_all
      have hs':Same σ0 ⟨(g,.sc (.bool (!want))) :: σ.tmps,σ.mem⟩:=⟨fun d=>((same_ref (v:=.sc (.bool (!want))) (hbw' ▸ hb)).1 d).trans (hs.1 d),hs.2⟩
      obtain ⟨es,σ',h1,h2,h3⟩:=AO_went hT (h.2 hbw') (app_same hs' o.dst .skip)
      refine ⟨.skip :: es,σ',.cons ⟨hd',?_⟩ h1,by simpa using h2,h3⟩
      rw [hg]
      exact ⟨g,hgs,.inl ⟨b,hb0,.inr ⟨hbw',rfl⟩⟩⟩
    ·rename_i vs hb
     obtain ⟨es,σ',h1,h2,h3⟩:=AO_went hT h (app_same hs o.dst .skip)
     refine ⟨.skip :: es,σ',.cons ⟨hd',?_⟩ h1,by simpa using h2,h3⟩
     rw [hg]
     exact ⟨g,hgs,.inr ⟨⟨vs,by rw [<-hs.1]; exact hb⟩,rfl⟩⟩
    ·exact h.elim
   ·exact h.elim
end Go.Proofs.YtffdhjnbppagjaaGreat.DW

namespace Go.Proofs.YtffdhjnbppagjaaGreat.DW
open Go.RowKit
section
variable {P:Program} {c:Cx} {ops:List Oper}
theorem yield_sim {σ:St} {Γ:Asg} {a:Act} {w:World} (hs:Sim c σ Γ a w) {j g:Nat} {b:Bool} (hg:gslot ops j=some g) (hb:look σ.tmps g=some (.sc (.bool b))):yielded ops.toArray a.tmps j=some b:=by
 obtain ⟨u,h1,h2⟩:=hs.tm g _ hb
 have h2':u=.bool b:=h2.1
 subst h2'
 unfold gslot at hg
 simp only [yielded,List.getElem?_toArray,hg,Option.bind_some,h1]
theorem Went.step {σ0 σ:St} {o:Oper} {e:Eff} (h:Went P c ops σ0 o e) {Γ:Asg} {a:Act} {w:World} (hs:Sim c σ Γ a w) (ht:∀ t ∈ opnds o,look σ.tmps t=look σ0.tmps t)
  (hg:∀ j want g,o.guard=some (j,want)->gslot ops j=some g->look σ.tmps g=look σ0.tmps g) (hm:∀ k,k ∈ e.mems.map (·.1)++e.rd->look σ.mem k=look σ0.mem k)
  {K:Act->World->Prop} {Q:Exit->Act->World->Prop} (hK:∀ Γ' a' w',Sim c (σ.app o.dst e) Γ' a' w'->K a' w') :
  if Region.wanted o (yielded ops.toArray a.tmps) then o.wp P a w K Q else K (a.put o.dst undef) w:=by
 obtain ⟨hd,h⟩:=h
 have hsok:∀ nx,(∀ k,nx<=k->look σ0.mem k=none)->SOK P c (look σ0.tmps) (look σ0.mem) nx o e->o.wp P a w K Q:=by
  intro nx hnx ⟨h1,h2⟩
  refine h2 σ Γ a w hs ht (fun k hk=>hm k (List.mem_append.2 (.inr hk))) (fun p hp hn=>?_) hd K Q hK
  rw [hm p.1 (List.mem_append.2 (.inl (List.mem_map.2 ⟨p,hp,rfl⟩)))]
  exact hnx _ ((h1 p hp).resolve_right hn)
 split at h
 ·rename_i hgd
  obtain ⟨nx,hnx,hsk⟩:=h
  rw [if_pos (by simp [Region.wanted,hgd])]
  exact hsok nx hnx hsk
 ·rename_i j want hgd
  have hskip:e=.skip->Region.wanted o (yielded ops.toArray a.tmps)=false->(if Region.wanted o (yielded ops.toArray a.tmps) then o.wp P a w K Q else K (a.put o.dst undef) w):=by
   rintro rfl hw
   rw [hw,if_neg (by simp)]
   refine hK Γ _ _ ?_
   have:=hs.put (d:=o.dst) (v:=.tup []) (u:=undef) ⟨[],rfl,trivial⟩ (fun x hx=>hd x hx)
   unfold St.app
   cases hdst:o.dst<;>simp only [hdst,St.put,Eff.skip,List.nil_append] at this ⊢<;>exact this
  obtain ⟨g,h1,⟨b,h2,h3⟩|⟨⟨vs,h2⟩,rfl⟩⟩:=h
  rotate_left
  ·refine hskip rfl ?_
   have hnone:yielded ops.toArray a.tmps j=none:=by
    obtain ⟨u,g1,us,rfl,_⟩:=hs.tm g _ ((hg j want g hgd h1).trans h2)
    unfold gslot at h1
    simp only [yielded,List.getElem?_toArray,h1,Option.bind_some,g1]
   simp [Region.wanted,hgd,hnone]
  have hy:=yield_sim hs h1 ((hg j want g hgd h1).trans h2)
  rcases h3 with ⟨rfl,nx,hnx,hsk⟩|⟨rfl,rfl⟩
  ·rw [if_pos (by simp [Region.wanted,hgd,hy])]
   exact hsok nx hnx hsk
  ·exact hskip rfl (by simp [Region.wanted,hgd,hy])
theorem went_list {Q:Exit->Act->World->Prop}:∀ {os:List Oper} {es:List Eff} {σ:St} {Γ:Asg} {a:Act} {w:World},Went' P c ops σ os es->Sim c σ Γ a w->(∀ Γ' a' w',Sim c (runEs σ (os.zip es)) Γ' a' w'->Q .normal a' w')->wpList P ops.toArray Q os a w
 | [],_,σ,Γ,a,w,.nil _,hs,hQ=>hQ Γ a w hs
 | o :: os,e :: es,σ,Γ,a,w,.cons h1 h2,hs,hQ=>by
  refine wpList_step fun K hK=>?_
  exact h1.step hs (fun _ _=>rfl) (fun _ _ _ _ _=>rfl) (fun _ _=>rfl) fun Γ' a' w' hs'=>hK _ _ (went_list h2 hs' hQ)
def runF (f:Nat->Bool):Nat->St->List (Oper × Eff)->St
 | _,σ,[]=>σ
 | i,σ,(o,e) :: l=>runF f (i+1) (cond (f i) (σ.app o.dst e) σ) l
theorem app_tm {σ:St} {d:Option Nat} {e:Eff} {x:Nat} (h:d ≠ some x):look (σ.app d e).tmps x=look σ.tmps x:=by
 cases d with
 | none=>rfl
 | some d=>exact look_ne _ _ (fun hx=>h (by rw [hx]))
theorem look_not {L:Mm} {k:Nat} (h:k ∉ L.map (·.1)):look L k=none:=by
 cases hl:look L k with
 | none=>rfl
 | some B=>obtain ⟨q,hq,e⟩:=look_mem hl; exact absurd (List.mem_map.2 ⟨q,hq,e⟩) h
theorem app_mm {σ:St} {d:Option Nat} {e:Eff} {k:Nat}:look (σ.app d e).mem k=(look e.mems k).or (look σ.mem k):=by
 cases d<;>simp only [St.app,look_app]
theorem runF_tm {f f':Nat->Bool} {d:Nat}:∀ {l:List (Oper × Eff)} {i0:Nat} {σ σ':St},(∀ i o e,l[i]? = some (o,e)->o.dst=some d->f (i0+i)=f' (i0+i))->look σ.tmps d=look σ'.tmps d->look (runF f i0 σ l).tmps d=look (runF f' i0 σ' l).tmps d
 | [],_,_,_,_,h=>h
 | (o,e) :: l,i0,σ,σ',hf,h=>by
  show look (runF f (i0+1) _ l).tmps d=look (runF f' (i0+1) _ l).tmps d
  refine runF_tm (fun i o' e' hi ho=>by have:=hf (i+1) o' e' (by simpa using hi) ho; rw [show i0+1+i=i0+(i+1) by omega]; exact this) ?_
  have h0:=hf 0 o e rfl
  by_cases hd:o.dst=some d
  ·have h00:=h0 hd
   simp only [Nat.add_zero] at h00
   rw [h00]
   cases f' i0 with
   | false=>exact h
   | true=>simp only [cond_true,St.app,hd,look_self]
  ·have e1:∀ (b:Bool) (τ:St),look (cond b (τ.app o.dst e) τ).tmps d=look τ.tmps d:=by
    intro b τ; cases b with
    | false=>rfl
    | true=>exact app_tm hd
   rw [e1,e1]; exact h
theorem runF_mm {f f':Nat->Bool} {k:Nat}:∀ {l:List (Oper × Eff)} {i0:Nat} {σ σ':St},(∀ i o e,l[i]? = some (o,e)->k ∈ e.mems.map (·.1)->f (i0+i)=f' (i0+i))->look σ.mem k=look σ'.mem k->look (runF f i0 σ l).mem k=look (runF f' i0 σ' l).mem k
 | [],_,_,_,_,h=>h
 | (o,e) :: l,i0,σ,σ',hf,h=>by
  show look (runF f (i0+1) _ l).mem k=look (runF f' (i0+1) _ l).mem k
  refine runF_mm (fun i o' e' hi ho=>by have:=hf (i+1) o' e' (by simpa using hi) ho; rw [show i0+1+i=i0+(i+1) by omega]; exact this) ?_
  have h0:=hf 0 o e rfl
  by_cases hd:k ∈ e.mems.map (·.1)
  ·have h00:=h0 hd
   simp only [Nat.add_zero] at h00
   rw [h00]
   cases f' i0 with
   | false=>exact h
   | true=>simp only [cond_true,app_mm,h]
  ·have e1:∀ (b:Bool) (τ:St),look (cond b (τ.app o.dst e) τ).mem k=look τ.mem k:=by
    intro b τ; cases b with
    | false=>rfl
    | true=>simp only [cond_true,app_mm,look_not hd,Option.none_or]
   rw [e1,e1]; exact h
def Apart (d d':Option Nat) (e e':Eff):Prop:=(∀ x,d=some x->d' ≠ some x)/\∀ k ∈ e.mems.map (·.1),k ∉ e'.mems.map (·.1)
theorem app_comm {σ:St} {d d':Option Nat} {e e':Eff} (h:Apart d d' e e'):Same ((σ.app d e).app d' e') ((σ.app d' e').app d e):=by
 refine ⟨fun x=>?_,fun k=>?_⟩
 ·by_cases h1:d=some x
  ·subst h1
   have h2:=h.1 x rfl
   rw [app_tm (σ:=σ.app (some x) e) h2]
   simp only [St.app,look_self]
  ·rw [app_tm h1]
   by_cases h2:d'=some x
   ·subst h2; simp only [St.app,look_self]
   ·rw [app_tm h2,app_tm h2,app_tm h1]
 ·simp only [app_mm]
  by_cases hk:k ∈ e.mems.map (·.1)
  ·rw [look_not (h.2 k hk)]; simp
  ·rw [look_not hk]; simp
theorem Same.trans' {a b d:St} (h:Same a b) (k:Same b d):Same a d:=⟨fun x=>(k.1 x).trans (h.1 x),fun x=>(k.2 x).trans (h.2 x)⟩
theorem Same.rfl' {a:St}:Same a a:=⟨fun _=>rfl,fun _=>rfl⟩
theorem runF_same {f:Nat->Bool}:∀ {l:List (Oper × Eff)} {i0:Nat} {σ σ':St},Same σ σ'->Same (runF f i0 σ l) (runF f i0 σ' l)
 | [],_,_,_,h=>h
 | (o,e) :: l,i0,σ,σ',h=>by
  refine runF_same (l:=l) ?_
  cases f i0 with
  | false=>exact h
  | true=>exact app_same h _ _
theorem runF_app {f:Nat->Bool} {d:Option Nat} {e:Eff}:∀ {l:List (Oper × Eff)} {i0:Nat} {σ:St},(∀ i o e',l[i]? = some (o,e')->f (i0+i)=true->Apart d o.dst e e')->Same (runF f i0 (σ.app d e) l) ((runF f i0 σ l).app d e)
 | [],_,_,_=>Same.rfl'
 | (o,e') :: l,i0,σ,h=>by
  have ih:=fun τ=>runF_app (l:=l) (i0:=i0+1) (σ:=τ) (f:=f) (d:=d) (e:=e) (fun i o e' hi hf=>h (i+1) o e' (by simpa using hi) (by rw [show i0+(i+1)=i0+1+i by omega]; exact hf))
  simp only [runF]
  cases hf:f i0 with
  | false=>exact ih σ
  | true =>
   simp only [cond_true]
   exact (runF_same (app_comm (h 0 o e' rfl (by simpa using hf)))).trans' (ih _)
theorem runF_ins {f:Nat->Bool} {i:Nat} (hfi:f i=false):∀ {l:List (Oper × Eff)} {i0:Nat} {σ:St} {o:Oper} {e:Eff},i0<=i->l[i - i0]? = some (o,e)->(∀ j o' e',l[j]? = some (o',e')->f (i0+j)=true->i < i0+j->Apart o.dst o'.dst e e') →
  Same (runF (fun j=>f j || j == i) i0 σ l) ((runF f i0 σ l).app o.dst e)
 | [],_,_,_,_,_,h,_=>by simp at h
 | (o1,e1) :: l,i0,σ,o,e,hle,h,ha=>by
  simp only [runF]
  rcases Nat.lt_or_eq_of_le hle with hlt|rfl
  ·have hne:(i0 == i)=false:=by simp; omega
   rw [hne,Bool.or_false]
   refine runF_ins hfi (by omega) ?_ fun j o' e' hj hf hji=>ha (j+1) o' e' (by simpa using hj) (by rw [show i0+(j+1)=i0+1+j by omega]; exact hf) (by omega)
   rw [show i - i0=(i - (i0+1))+1 by omega] at h
   simpa using h
  ·simp only [Nat.sub_self,List.getElem?_cons_zero,Option.some.injEq,Prod.mk.injEq] at h
   obtain ⟨rfl,rfl⟩:=h
   rw [hfi]
   simp only [beq_self_eq_true,Bool.or_true,cond_true,cond_false]
   have h1:Same (runF (fun j=>f j || j == i0) (i0+1) (σ.app o1.dst e1) l) (runF f (i0+1) (σ.app o1.dst e1) l):=by
    refine ⟨fun d=>(runF_tm (fun j o' e' hj _=>?_) rfl).symm,fun k=>(runF_mm (fun j o' e' hj _=>?_) rfl).symm⟩<;>(have:(i0+1+j == i0)=false:=by simp; omega)<;>rw [this,Bool.or_false]
   exact h1.trans' (runF_app fun j o' e' hj hf=>ha (j+1) o' e' (by simpa using hj) (by rw [show i0+(j+1)=i0+1+j by omega]; exact hf) (by omega))
theorem went_at:∀ {os:List Oper} {es:List Eff} {σ:St} {i0:Nat},Went' P c ops σ os es->∀ i o e,(os.zip es)[i]? = some (o,e)->Went P c ops (runF (fun j=>decide (j < i0+i)) i0 σ (os.zip es)) o e
 | [],_,_,_,.nil _,i,o,e,h=>by simp at h
 | o1 :: os,e1 :: es,σ,i0,.cons h1 h2,i,o,e,h=>by
  cases i with
  | zero =>
   simp at h
   obtain ⟨rfl,rfl⟩:=h
   have h0:∀ (l:List (Oper × Eff)) (k:Nat),i0<=k->runF (fun j=>decide (j < i0+0)) k σ l=σ:=by
    intro l
    induction l with
    | nil=>intros; rfl
    | cons x l ih =>
     intro k hk
     have:decide (k < i0+0)=false:=by simp; omega
     simp only [runF,this,cond_false]
     exact ih _ (by omega)
   rw [h0 _ _ (Nat.le_refl _)]; exact h1
  | succ i =>
   have:=went_at (i0:=i0+1) h2 i o e (by simpa using h)
   simp only [List.zip_cons_cons,runF]
   have hd:decide (i0 < i0+(i+1))=true:=by simp
   rw [hd]
   simp only [cond_true]
   have he:(fun j=>decide (j < i0+(i+1)))=fun j=>decide (j < i0+1+i):=by funext j; congr 1; rw [show i0+(i+1)=i0+1+i by omega]
   rw [he]; exact this
end
def mask (acc:List Nat) (o:Oper):Nat:=o.after.toList.foldl (fun s e=>if Region.binds .any e then s ||| 2 ^ e.on ||| acc.getD e.on 0 else s) 0
def masks (ops:List Oper):List Nat:=ops.foldl (fun acc o=>acc++[mask acc o]) []
def rT (ops:List Oper) (o:Oper):List Nat:=opnds o++(match o.guard with|some (j,_)=>(gslot ops j).toList|none=>[])
def inter (a b:List Nat):Bool:=a.any fun x=>b.contains x
def confB (ops:List Oper) (o o':Oper) (t t':List Nat × List Nat):Bool :=
 (match o.dst with|some d=>(rT ops o').contains d || o'.dst == some d|none=>false) ||
 (match o'.dst with|some d=>(rT ops o).contains d|none=>false) || inter t.1 t'.2 || inter t'.1 t.2
def edgesOK (ops:List Oper):Bool:=ops.zipIdx.all fun x=>x.1.after.toList.all fun e=>!Region.binds .any e || decide (e.on < x.2)
def okTr (ops:List Oper) (tr:Tr):Bool :=
 edgesOK ops && (ops.zip tr).zipIdx.all fun y=>(ops.zip tr).zipIdx.all fun x=>!decide (x.2 < y.2) || !confB ops x.1.1 y.1.1 x.1.2 y.1.2 || ((masks ops).getD y.2 0).testBit x.2
theorem mask_len (ops:List Oper):(masks ops).length=ops.length:=by
 unfold masks
 have:∀ (l:List Oper) (acc:List Nat),(l.foldl (fun acc o=>acc++[mask acc o]) acc).length=acc.length+l.length:=by
  intro l
  induction l with
  | nil=>intro acc; rfl
  | cons o l ih=>intro acc; rw [List.foldl_cons,ih]; simp; omega
 simpa using this ops []
theorem mask_bit {acc:List Nat} {o:Oper} {i:Nat} (h:(mask acc o).testBit i=true):∃ e ∈ o.after.toList,Region.binds .any e=true/\(e.on=i\/(acc.getD e.on 0).testBit i=true):=by
 unfold mask at h
 have:∀ (l:List Edge) (s:Nat),(l.foldl (fun s e=>if Region.binds .any e then s ||| 2 ^ e.on ||| acc.getD e.on 0 else s) s).testBit i=true->s.testBit i=true\/∃ e ∈ l,Region.binds .any e=true/\(e.on=i\/(acc.getD e.on 0).testBit i=true):=by
  intro l
  induction l with
  | nil=>intro s h; exact .inl h
  | cons e l ih =>
   intro s h
   rw [List.foldl_cons] at h
   rcases ih _ h with h|⟨e',he',h⟩
   ·by_cases hb:Region.binds .any e=true
    ·rw [if_pos hb,Nat.testBit_or,Nat.testBit_or,Nat.testBit_two_pow] at h
     simp only [Bool.or_eq_true,decide_eq_true_eq] at h
     rcases h with (h|h)|h
     ·exact .inl h
     ·exact .inr ⟨e,List.mem_cons_self,hb,.inl h⟩
     ·exact .inr ⟨e,List.mem_cons_self,hb,.inr h⟩
    ·rw [if_neg hb] at h; exact .inl h
   ·exact .inr ⟨e',List.mem_cons_of_mem _ he',h⟩
 rcases this _ 0 h with h|h
 ·simp at h
 ·exact h
theorem masks_bit {ops:List Oper} {L:Nat->Bool} (hL:∀ j o,ops[j]? = some o->L j=true->∀ e ∈ o.after.toList,Region.binds .any e=true->L e.on=true) :
  ∀ (n j i:Nat) (o:Oper),n<=ops.length->j < n->ops[j]? = some o->(∀ e ∈ o.after.toList,Region.binds .any e=true->L e.on=true)->((masks (ops.take n)).getD j 0).testBit i=true->L i=true:=by
 intro n
 induction n with
 | zero=>intro j i o _ h; omega
 | succ n ih =>
  intro j i o hn hj ho he hb
  have ht:masks (ops.take (n+1))=masks (ops.take n)++[mask (masks (ops.take n)) ops[n]]:=by
   rw [List.take_succ_eq_append_getElem (by omega)]
   simp only [masks,List.foldl_append,List.foldl_cons,List.foldl_nil]
  have hlen:(masks (ops.take n)).length=n:=by rw [mask_len,List.length_take]; omega
  rw [ht] at hb
  rcases Nat.lt_or_ge j n with hjn|hjn
  ·rw [List.getD_eq_getElem?_getD,List.getElem?_append_left (by omega),<-List.getD_eq_getElem?_getD] at hb
   exact ih j i o (by omega) hjn ho he hb
  ·have:j=n:=by omega
   subst this
   rw [List.getD_eq_getElem?_getD,List.getElem?_append_right (by omega),hlen] at hb
   simp only [Nat.sub_self,List.getElem?_cons_zero,Option.getD_some] at hb
   have hoo:o=ops[j]:=by rw [List.getElem?_eq_getElem (by omega)] at ho; injection ho with ho; exact ho.symm
   subst hoo
   obtain ⟨e,hem,hbd,hor⟩:=mask_bit hb
   rcases hor with rfl|hor
   ·exact he e hem hbd
   ·have hLe:=he e hem hbd
    have hlt:e.on < j:=by
     rcases Nat.lt_or_ge e.on j with h|h
     ·exact h
     ·rw [List.getD_eq_getElem?_getD,List.getElem?_eq_none (by omega)] at hor; simp at hor
    exact ih e.on i ops[e.on] (by omega) hlt (List.getElem?_eq_getElem (by omega)) (hL e.on _ (List.getElem?_eq_getElem (by omega)) hLe) hor
end Go.Proofs.YtffdhjnbppagjaaGreat.DW

namespace Go.Proofs.YtffdhjnbppagjaaGreat.DW
open Go.RowKit
section
variable {P:Program} {c:Cx} {ops:List Oper}
theorem went_len:∀ {os:List Oper} {es:List Eff} {σ:St},Went' P c ops σ os es->es.length=os.length
 | [],_,_,.nil _=>rfl
 | _ :: _,_ :: _,_,.cons _ h=>by simp [went_len h]
theorem runF_all {f:Nat->Bool}:∀ {l:List (Oper × Eff)} {i0:Nat} {σ:St},(∀ i,i < l.length->f (i0+i)=true)->runF f i0 σ l=runEs σ l
 | [],_,_,_=>rfl
 | (o,e) :: l,i0,σ,h=>by
  have h0:=h 0 (by simp)
  simp only [Nat.add_zero] at h0
  simp only [runF,runEs,h0,cond_true]
  exact runF_all fun i hi=>by rw [show i0+1+i=i0+(i+1) by omega]; exact h _ (by simp; omega)
theorem okTr_conf {tr:Tr} (hok:okTr ops tr=true) {i j:Nat} {o o':Oper} {t t':List Nat × List Nat} (hij:i < j) (hi:ops[i]? = some o) (hj:ops[j]? = some o') (ti:tr[i]? = some t) (tj:tr[j]? = some t')
  (hc:confB ops o o' t t'=true):((masks ops).getD j 0).testBit i=true:=by
 simp only [okTr,Bool.and_eq_true] at hok
 have h2:=hok.2
 rw [List.all_eq_true] at h2
 have m1:((o',t'),j) ∈ (ops.zip tr).zipIdx:=List.mk_mem_zipIdx_iff_getElem?.2 (by rw [List.getElem?_zip_eq_some]; exact ⟨hj,tj⟩)
 have m2:((o,t),i) ∈ (ops.zip tr).zipIdx:=List.mk_mem_zipIdx_iff_getElem?.2 (by rw [List.getElem?_zip_eq_some]; exact ⟨hi,ti⟩)
 have h3:=h2 _ m1
 rw [List.all_eq_true] at h3
 have h4:=h3 _ m2
 simp only [hij,decide_true,Bool.not_true,Bool.false_or,hc] at h4
 exact h4
theorem okTr_edges {tr:Tr} (hok:okTr ops tr=true) {i:Nat} {o:Oper} (hi:ops[i]? = some o) {e:Edge} (he:e ∈ o.after.toList) (hb:Region.binds .any e=true):e.on < i:=by
 simp only [okTr,Bool.and_eq_true,edgesOK] at hok
 have h1:=hok.1
 rw [List.all_eq_true] at h1
 have:=h1 (o,i) (List.mk_mem_zipIdx_iff_getElem?.2 hi)
 rw [List.all_eq_true] at this
 have:=this e he
 simpa [hb] using this
theorem mem_ready {listed:Array Bool} {i:Nat}:i ∈ Region.ready .any ops.toArray listed ↔ i < ops.length/\listed.getD i true=false/\∃ o,ops[i]? = some o/\∀ e ∈ o.after.toList,Region.binds .any e=true->listed.getD e.on false=true:=by
 unfold Region.ready
 simp only [List.size_toArray,List.mem_filter,List.mem_range,Bool.and_eq_true,Bool.not_eq_true',List.getElem?_toArray]
 refine and_congr_right fun hi=>and_congr_right fun _=>?_
 rw [List.getElem?_eq_getElem hi]
 simp only [Option.map_some,Option.getD_some,Option.some.injEq,exists_eq_left']
 rw [<-Array.all_toList,List.all_eq_true]
 refine forall_congr' fun e=>?_
 refine imp_congr_right fun _=>?_
 cases hb:Region.binds .any e<;>simp
theorem inter_mem {a b:List Nat} {k:Nat} (h1:k ∈ a) (h2:k ∈ b):inter a b=true:=List.any_eq_true.2 ⟨k,h1,by simpa using h2⟩
def unl (n:Nat) (listed:Array Bool):List Nat:=(List.range n).filter fun i=>!listed.getD i true
theorem getD_set {a:Array Bool} {i j:Nat} {d:Bool} (hi:i < a.size):(a.setIfInBounds i true).getD j d=if j=i then true else a.getD j d:=by
 rw [Array.getD_eq_getD_getElem?,Array.getD_eq_getD_getElem?]
 by_cases h:j=i
 ·subst h; rw [Array.getElem?_setIfInBounds_self_of_lt hi]; simp
 ·rw [Array.getElem?_setIfInBounds_ne (Ne.symm h)]; simp [h]
theorem getD_d {a:Array Bool} {i:Nat} (h:i < a.size):a.getD i true=a.getD i false:=by
 rw [Array.getD_eq_getD_getElem?,Array.getD_eq_getD_getElem?,Array.getElem?_eq_getElem h]; rfl
theorem wpAny_went {Q:Exit->Act->World->Prop} {σ0:St} {es:List Eff} (hw:Went' P c ops σ0 ops es) (hok:okTr ops (es.map Eff.te)=true) (hQ:∀ Γ' a' w',Sim c (runEs σ0 (ops.zip es)) Γ' a' w'->Q .normal a' w') :
  ∀ (fuel:Nat) (listed:Array Bool) (a:Act) (w:World) (Γ:Asg),listed.size=ops.length->(∀ j o,ops[j]? = some o->listed.getD j false=true->∀ e ∈ o.after.toList,Region.binds .any e=true->listed.getD e.on false=true) →
   (unl ops.length listed).length<=fuel->Sim c (runF (fun i=>listed.getD i false) 0 σ0 (ops.zip es)) Γ a w->wpAny P .any ops.toArray Q fuel listed a w:=by
 have hlen:=went_len hw
 have hdone:∀ (listed:Array Bool) (a:Act) (w:World) (Γ:Asg),listed.size=ops.length->Sim c (runF (fun i=>listed.getD i false) 0 σ0 (ops.zip es)) Γ a w->Region.ready .any ops.toArray listed=[]->Q .normal a w:=by
  intro listed a w Γ hsz hs hr
  have hall:∀ i,i < ops.length->listed.getD i false=true:=by
   intro i
   induction i using Nat.strongRecOn with
   | _ i ih =>
    intro hi
    cases hl:listed.getD i false with
    | true=>rfl
    | false =>
     exfalso
     have:i ∈ Region.ready .any ops.toArray listed:=by
      refine mem_ready.2 ⟨hi,by rw [getD_d (by omega)]; exact hl,_,List.getElem?_eq_getElem hi,fun e he hb=>?_⟩
      have hlt:=okTr_edges hok (List.getElem?_eq_getElem hi) he hb
      exact ih _ hlt (by omega)
     rw [hr] at this; cases this
  rw [runF_all fun i hi=>by rw [Nat.zero_add]; exact hall i (by simp at hi; omega)] at hs
  exact hQ Γ a w hs
 intro fuel
 induction fuel with
 | zero =>
  intro listed a w Γ hsz hcl hun hs
  have hr:Region.ready .any ops.toArray listed=[]:=by
   refine List.eq_nil_iff_forall_not_mem.2 fun i hi=>?_
   obtain ⟨h1,h2,_⟩:=mem_ready.1 hi
   have:i ∈ unl ops.length listed:=List.mem_filter.2 ⟨List.mem_range.2 h1,by rw [h2]; rfl⟩
   rw [List.eq_nil_of_length_eq_zero (Nat.le_zero.1 hun)] at this
   cases this
  exact ⟨hr,hdone listed a w Γ hsz hs hr⟩
 | succ fuel ih =>
  intro listed a w Γ hsz hcl hun hs
  refine ⟨hdone listed a w Γ hsz hs,fun i hi=>?_⟩
  obtain ⟨h1,h2,o,ho,hedge⟩:=mem_ready.1 hi
  have hfi:listed.getD i false=false:=by rw [<-getD_d (by omega)]; exact h2
  have hie:i < es.length:=by omega
  have he:es[i]? = some es[i]:=List.getElem?_eq_getElem hie
  have hz:(ops.zip es)[i]? = some (o,es[i]):=by rw [List.getElem?_zip_eq_some]; exact ⟨ho,he⟩
  have hwent:=went_at (i0:=0) hw i o es[i] hz
  simp only [Nat.zero_add] at hwent
  have hte:(es.map Eff.te)[i]? = some es[i].te:=by rw [List.getElem?_map,he]; rfl
  have hbef:∀ j oj ej,(ops.zip es)[j]? = some (oj,ej)->j < i->confB ops oj o ej.te es[i].te=true->listed.getD j false=true:=by
   intro j oj ej hj hji hc
   rw [List.getElem?_zip_eq_some] at hj
   have hb:=okTr_conf hok hji hj.1 ho (by rw [List.getElem?_map,hj.2]; rfl) hte hc
   have:=masks_bit (L:=fun i=>listed.getD i false) hcl ops.length i j o (Nat.le_refl _) h1 ho hedge (by rw [List.take_length]; exact hb)
   exact this
  have haft:∀ j oj ej,(ops.zip es)[j]? = some (oj,ej)->i < j->confB ops o oj es[i].te ej.te=true->listed.getD j false=false:=by
   intro j oj ej hj hij hc
   rw [List.getElem?_zip_eq_some] at hj
   have hb:=okTr_conf hok hij ho hj.1 hte (by rw [List.getElem?_map,hj.2]; rfl) hc
   cases hl:listed.getD j false with
   | false=>rfl
   | true =>
    have hjl:=(List.getElem?_eq_some_iff.1 hj.1).1
    have:=masks_bit (L:=fun i=>listed.getD i false) hcl ops.length j i oj (Nat.le_refl _) hjl hj.1 (hcl j oj hj.1 hl) (by rw [List.take_length]; exact hb)
    rw [show listed.getD i false=true from this] at hfi; cases hfi
  have hagT:∀ d,d ∈ rT ops o->look (runF (fun i=>listed.getD i false) 0 σ0 (ops.zip es)).tmps d=look (runF (fun j=>decide (j < i)) 0 σ0 (ops.zip es)).tmps d:=by
   intro d hd
   refine runF_tm (fun j oj ej hj hdj=>?_) rfl
   rw [Nat.zero_add]
   rcases Nat.lt_trichotomy j i with hji|rfl|hij
   ·rw [hbef j oj ej hj hji (by simp [confB,hdj,hd])]; simp [hji]
   ·rw [hfi]; simp
   ·rw [haft j oj ej hj hij (by simp [confB,hdj,hd])]; simp; omega
  have hagM:∀ k,k ∈ es[i].mems.map (·.1)++es[i].rd->look (runF (fun i=>listed.getD i false) 0 σ0 (ops.zip es)).mem k=look (runF (fun j=>decide (j < i)) 0 σ0 (ops.zip es)).mem k:=by
   intro k hk
   refine runF_mm (fun j oj ej hj hkj=>?_) rfl
   rw [Nat.zero_add]
   have hin:inter ej.te.1 es[i].te.2=true:=inter_mem hkj hk
   rcases Nat.lt_trichotomy j i with hji|rfl|hij
   ·rw [hbef j oj ej hj hji (by simp [confB,hin])]; simp [hji]
   ·rw [hfi]; simp
   ·rw [haft j oj ej hj hij (by simp [confB,hin])]; simp; omega
  have hins:=runF_ins (f:=fun i=>listed.getD i false) hfi (l:=ops.zip es) (i0:=0) (σ:=σ0) (Nat.zero_le _) hz fun j oj ej hj hf hij=>by
   rw [Nat.zero_add] at hf hij
   refine ⟨fun x hx hx'=>?_,fun k hk hk'=>?_⟩
   ·have:=haft j oj ej hj hij (by simp [confB,hx,hx'])
    rw [hf] at this; cases this
   ·have hin:inter es[i].te.1 ej.te.2=true:=inter_mem hk (List.mem_append.2 (.inl hk'))
    have:=haft j oj ej hj hij (by simp [confB,hin])
    rw [hf] at this; cases this
  unfold wpOp
  rw [List.getElem?_toArray,ho]
  simp only
  have hnext:∀ Γ' a' w',Sim c ((runF (fun i=>listed.getD i false) 0 σ0 (ops.zip es)).app o.dst es[i]) Γ' a' w'->wpAny P .any ops.toArray Q fuel (listed.setIfInBounds i true) a' w':=by
   intro Γ' a' w' hs'
   refine ih _ a' w' Γ' (by simp [hsz]) (fun j oj hj hl e he' hb=>?_) ?_ ?_
   ·rw [getD_set (by omega)]
    rw [getD_set (by omega)] at hl
    split
    ·rfl
    ·by_cases hji:j=i
     ·subst hji
      rw [ho] at hj; injection hj with hj; subst hj
      exact hedge e he' hb
     ·rw [if_neg hji] at hl
      exact hcl j oj hj hl e he' hb
   ·have hsub:unl ops.length (listed.setIfInBounds i true)=(unl ops.length listed).filter fun j=>!(listed.setIfInBounds i true).getD j true:=by
     unfold unl
     rw [List.filter_filter]
     refine List.filter_congr fun j _=>?_
     rw [getD_set (by omega)]
     by_cases hji:j=i
     ·simp [hji]
     ·simp [hji]
    have hlt:(unl ops.length (listed.setIfInBounds i true)).length < (unl ops.length listed).length:=by
     rw [hsub]
     refine List.length_filter_lt_length_iff_exists.2 ⟨i,List.mem_filter.2 ⟨List.mem_range.2 h1,by rw [h2]; rfl⟩,?_⟩
     rw [getD_set (by omega)]; simp
    omega
   ·refine hs'.same (Same.trans' ⟨fun d=>(hins.1 d).symm,fun k=>(hins.2 k).symm⟩ ?_)
    have:(fun j=>listed.getD j false || j == i)=fun j=>(listed.setIfInBounds i true).getD j false:=by
     funext j
     rw [getD_set (by omega)]
     by_cases hji:j=i
     ·simp [hji]
     ·simp [hji]
    rw [this]; exact Same.rfl'
  have hstep:=hwent.step (Q:=Q) (K:=wpAny P .any ops.toArray Q fuel (listed.setIfInBounds i true)) hs (fun t ht=>hagT t (List.mem_append.2 (.inl ht))) (fun j want g hg hgs=>hagT g (List.mem_append.2 (.inr (by rw [hg]; simp [hgs])))) hagM hnext
  split
  ·rename_i hwt; rw [if_pos hwt] at hstep; exact .inl hstep
  ·rename_i hwt; rw [if_neg hwt] at hstep; exact hstep
theorem region_draw {Q:Exit->Act->World->Prop} {T:TypeId->Option Ty} (hT:TabOK P T) (hmix:P.follows .mixedOrders=true) {id:Nat} {σ:St} {Γ:Asg} {a:Act} {w:World} (hs:Sim c σ Γ a w) {QA:St->Prop}
  (h:AO P T c.n ops ops σ [] fun σ' tr=>okTr ops tr=true/\QA σ') (hQ:∀ σ' Γ' a' w',QA σ'->Sim c σ' Γ' a' w'->Q .normal a' w'):(Code.region id ops.toArray true).wp P Q a w:=by
 obtain ⟨es,σ',h1,⟨h2,h3⟩,h4⟩:=AO_went hT h Same.rfl'
 simp only [List.nil_append] at h2
 refine wp_region_any hmix ?_
 have hs':Sim c σ Γ a { w with drawn:=w.drawn+1 }:=hs.frame ⟨rfl,rfl,rfl,Nat.le_refl _,fun _ _=>rfl⟩
 refine wpAny_went h1 h2 (fun Γ' a' w' hs'=>hQ σ' Γ' a' w' h3 (hs'.same h4)) _ _ a _ Γ (by simp) (fun j o _ hl=>?_) ?_ ?_
 ·rw [Array.getD_eq_getD_getElem?] at hl
  by_cases hj:j < ops.length
  ·simp [hj] at hl
  ·simp [hj] at hl
 ·unfold unl
  refine Nat.le_trans (List.length_filter_le _ _) (by simp)
 ·have:∀ (l:List (Oper × Eff)) (k:Nat) (τ:St),runF (fun i=>(Array.replicate ops.toArray.size false).getD i false) k τ l=τ:=by
   intro l
   induction l with
   | nil=>intros; rfl
   | cons x l ih =>
    intro k τ
    have hf:(Array.replicate ops.toArray.size false).getD k false=false:=by
     rw [Array.getD_eq_getD_getElem?]
     by_cases hk:k < ops.length<;>simp [hk]
    simp only [runF,hf,cond_false]
    exact ih _ _
  rw [this]; exact hs'
theorem region_text {Q:Exit->Act->World->Prop} {T:TypeId->Option Ty} (hT:TabOK P T) {id:Nat} {σ:St} {Γ:Asg} {a:Act} {w:World} (hs:Sim c σ Γ a w) {QA:St->Prop}
  (h:AO P T c.n ops ops σ [] fun σ' _=>QA σ') (hQ:∀ σ' Γ' a' w',QA σ'->Sim c σ' Γ' a' w'->Q .normal a' w'):(Code.region id ops.toArray false).wp P Q a w:=by
 obtain ⟨es,σ',h1,h3,h4⟩:=AO_went hT h Same.rfl'
 exact wp_region_lit (went_list h1 hs fun Γ' a' w' hs'=>hQ σ' Γ' a' w' h3 (hs'.same h4))
end
end Go.Proofs.YtffdhjnbppagjaaGreat.DW

namespace Go.Proofs.YtffdhjnbppagjaaGreat.DW
open Go.RowKit
section
variable (σm τm:Nat->Option Blk) (ρ:Nat->Nat) (rng:List Nat)
def LeC (u v:AV):Prop :=
 match v with
 | .sc x=>u=.sc x
 | .sl t l=>(u.data σm=some ⟨t,l⟩/\∀ k ∈ u.rows,k ∉ rng)\/(u=.sc (.slice none 0 0)/\l=[])
 | .row k ver =>
  match τm k,u with
  | some (.row _ _ v _ _),.row k0 ver0=>k0=ρ k/\v=ver/\(match σm k0 with|some (.row _ _ v0 _ _)=>v0=ver0|_=>False)
  | some (.odat _ _),.row k0 ver0=>k0=ρ k/\ver=0/\ver0=0
  | _,_=>False
 | .ptr k off=>u=.ptr (ρ k) off/\∃ cs,τm k=some (.box cs)
 | .ref t x off=>u=.ref t x off/\rng=rng
 | .ex e t x=>u=.ex e t x/\rng=rng
 | _=>False
def LeA (u v:AV):Prop :=
 match v with
 | .agg cs=>match u with
  | .agg cs0=>All2 (LeC σm τm ρ rng) cs0 cs
  | _=>False
 | v=>LeC σm τm ρ rng u v
def LeV (u v:AV):Prop :=
 match v with
 | .junk=>True
 | .tup vs=>match u with
  | .tup us=>All2 (LeA σm τm ρ rng) us vs
  | _=>False
 | v=>LeA σm τm ρ rng u v
def wkT (σ:Tm):Tm->Prop
 | []=>True
 | (d,v) :: l=>(match look σ d with|some u=>LeV σm τm ρ rng u v|none=>False)/\wkT σ l
def wkB (k:Nat) (B:Blk):Prop :=
 match B with
 | .row e t _ o l=>match σm (ρ k) with
  | some (.row e0 t0 _ o0 l0)=>e0=e/\(⟨t0,l0⟩:Lst)=⟨t,l⟩/\(o=true->o0=true)
  | _=>False
 | .odat t l=>match σm (ρ k) with
  | some (.odat t0 l0)=>(⟨t0,l0⟩:Lst)=⟨t,l⟩
  | _=>False
 | .box cs=>match σm (ρ k) with
  | some (.box cs0)=>All2 (LeC σm τm ρ rng) cs0 cs
  | _=>False
 | _=>False
def wkM:Mm->Prop
 | []=>True
 | (k,B) :: l=>wkB σm τm ρ rng k B/\wkM l
end
def ren (L:List (Nat × Nat)) (k:Nat):Nat:=(look L k).getD k
def Wk (σ τ:St):Prop :=
 ∃ L:List (Nat × Nat),((τ.mem.map fun p=>ren L p.1).Nodup)/\wkT (look σ.mem) (look τ.mem) (ren L) (τ.mem.map fun p=>ren L p.1) σ.tmps τ.tmps/\wkM (look σ.mem) (look τ.mem) (ren L) (τ.mem.map fun p=>ren L p.1) τ.mem
section
variable {c:Cx} {σ τ:St} {Γ:Asg} {a:Act} {w:World} {ρ:Nat->Nat} {rng:List Nat}
def Asg.ren (Γ:Asg) (ρ:Nat->Nat):Asg:=⟨fun k=>Γ.β (ρ k),fun k=>Γ.hd (ρ k),fun k=>Γ.fp (ρ k)⟩
theorem wkM_get {σm τm:Nat->Option Blk}:∀ {M:Mm} {k:Nat} {B:Blk},wkM σm τm ρ rng M->look M k=some B->wkB σm τm ρ rng k B
 | [],_,_,_,h=>by cases h
 | (j,C) :: M,k,B,⟨h1,h2⟩,h=>by
  simp only [look] at h
  split at h
  ·rename_i e; injection h with h; subst h e; exact h1
  ·exact wkM_get h2 h
theorem wkT_get {σm τm:Nat->Option Blk} {σt:Tm}:∀ {M:Tm} {k:Nat} {v:AV},wkT σm τm ρ rng σt M->look M k=some v->∃ u,look σt k=some u/\LeV σm τm ρ rng u v
 | [],_,_,_,h=>by cases h
 | (j,C) :: M,k,v,⟨h1,h2⟩,h=>by
  simp only [look] at h
  split at h
  ·rename_i e; injection h with h; subst h e
   split at h1
   ·rename_i u hu; exact ⟨u,hu,h1⟩
   ·exact h1.elim
  ·exact wkT_get h2 h
theorem wk_mut {B:Blk} {k b:Nat} (hB:wkB (look σ.mem) (look τ.mem) ρ rng k B) (hm:B.mut (Γ.ren ρ) k b):∃ B0,look σ.mem (ρ k)=some B0/\B0.mut Γ (ρ k) b:=by
 unfold wkB at hB
 split at hB
 ·split at hB
  ·rename_i h0; exact ⟨_,h0,hm⟩
  ·exact hB.elim
 ·exact hm.elim
 ·split at hB
  ·rename_i h0; exact ⟨_,h0,hm⟩
  ·exact hB.elim
 ·exact hB.elim
theorem wk_Gd (hM:wkM (look σ.mem) (look τ.mem) ρ rng τ.mem) {b:Nat} (hg:Gd c σ.mem Γ b):Gd c τ.mem (Γ.ren ρ) b :=
 ⟨hg.1,fun ⟨k,B,hk,hm⟩=>by
  obtain ⟨B0,h1,h2⟩:=wk_mut (wkM_get hM hk) hm
  exact hg.2 ⟨_,B0,h1,h2⟩⟩
theorem wk_crep (hs:Sim c σ Γ a w) (hrng:rng=τ.mem.map fun p=>ρ p.1) (hM:wkM (look σ.mem) (look τ.mem) ρ rng τ.mem) {u v:AV} {x:Value} (hu:CRep c σ.mem Γ w u x) (hle:LeC (look σ.mem) (look τ.mem) ρ rng u v):CRep c τ.mem (Γ.ren ρ) w v x:=by
 cases v with
 | sc y=>obtain rfl:u=.sc y:=hle; exact hu
 | sl t l =>
  rcases hle with ⟨hd,hr⟩|⟨rfl,rfl⟩
  ·by_cases hrow:∃ k ver e v' o' l',u=.row k ver/\look σ.mem k=some (.row e t v' o' l')
   ·obtain ⟨k,ver,e,v',o',l',rfl,hk⟩:=hrow
    have hd':=hd
    simp only [AV.data,hk,Option.bind_some,Blk.data] at hd'
    split at hd'
    ·rename_i hvv
     injection hd' with hd'; injection hd' with _ d2
     obtain rfl:=d2
     obtain ⟨fps,hg,hf,hgd,_⟩:=hs.mm k _ hk
     obtain ⟨_,B,hB,hbh⟩:=hu
     rw [hk] at hB; injection hB with hB; subst hB
     rw [hbh.2 hvv]
     obtain ⟨fp,hrep,hfp⟩:=grow_rep hg
     refine ⟨fp,hrep,fun b hb=>?_⟩
     rcases hfp with rfl|⟨g,hgo,rfl,hbg,_⟩
     ·cases hb
     ·rcases List.mem_cons.1 hb with rfl|hb
      ·refine ⟨.inr hbg,fun ⟨j,B,hj,hm⟩=>?_⟩
       obtain ⟨B0,h1,h2⟩:=wk_mut (wkM_get hM hj) hm
       have:=hs.inj _ _ _ _ b h1 hk h2 hgo
       refine hr k (by simp [AV.rows]) ?_
       rw [hrng,<-this]
       obtain ⟨q,hq,e⟩:=look_mem hj
       exact List.mem_map.2 ⟨q,hq,by rw [e]⟩
      ·exact wk_Gd hM (hgd b (hf ▸ hb))
    ·cases hd'
   ·obtain ⟨fp,hrep,_,hg⟩:=hs.sliceRep hu hd
    refine ⟨fp,hrep,fun b hb=>wk_Gd hM (hg (fun k ver e e' t' v' o' l' hk=>?_) b hb)⟩
    subst e
    have hd2:=hd
    simp only [AV.data,hk,Option.bind_some,Blk.data] at hd2
    split at hd2
    ·injection hd2 with hd2; injection hd2 with d1 d2
     subst d1
     exact hrow ⟨k,ver,e',v',o',l',rfl,hk⟩
    ·cases hd2
  ·obtain ⟨rfl,_⟩:=hu
   exact ⟨[],⟨none,0,rfl,Nat.le_refl _,Nat.zero_le _,.inl ⟨rfl,rfl⟩⟩,fun b hb=>by cases hb⟩
 | row k ver =>
  unfold LeC at hle
  simp only at hle
  split at hle
  ·rename_i e t v' o l k0 ver0 hk
   obtain ⟨rfl,rfl,hle⟩:=hle
   split at hle
   ·rename_i e0 t0 v0 o0 l0 hk0
    subst hle
    obtain ⟨h1,B,hB,hh⟩:=hu
    rw [hk0] at hB; injection hB with hB; subst hB
    exact ⟨h1,_,hk,Nat.le_refl _,fun _=>hh.2 rfl⟩
   ·exact hle.elim
  ·rename_i t l k0 ver0 hk
   obtain ⟨rfl,rfl,rfl⟩:=hle
   have hwb:=wkM_get hM hk
   simp only [wkB] at hwb
   split at hwb
   ·rename_i t0 l0 hk0
    obtain ⟨h1,B,hB,hh⟩:=hu
    rw [hk0] at hB; injection hB with hB; subst hB
    exact ⟨h1,_,hk,fun _=>hh rfl⟩
   ·exact hwb.elim
  ·exact hle.elim
 | ptr k off =>
  obtain ⟨rfl,cs,hk⟩:=hle
  obtain ⟨rfl,_⟩:=hu
  exact ⟨rfl,cs,hk⟩
 | ex e t y =>
  obtain ⟨rfl,_⟩:=hle
  obtain ⟨fp,hr,hg⟩:=hu
  exact ⟨fp,hr,fun b hb=>wk_Gd hM (hg b hb)⟩
 | ref t y off =>
  obtain ⟨rfl,_⟩:=hle
  obtain ⟨b,o,cs,fp,rfl,hr,hc,hgb,hg,hl⟩:=hu
  exact ⟨b,o,cs,fp,rfl,hr,hc,wk_Gd hM hgb,fun b' hb'=>wk_Gd hM (hg b' hb'),hl⟩
 | _=>exact hle.elim
theorem All2.imp2 {α β γ:Type} {R:α->γ->Prop} {Q:α->β->Prop} {R':β->γ->Prop}:∀ {l:List α} {m:List β} {n:List γ},(∀ a b x,R a x->Q a b->R' b x)->All2 R l n->All2 Q l m->All2 R' m n
 | [],[],[],_,_,_=>trivial
 | _ :: _,_ :: _,_ :: _,h,⟨h1,h2⟩,⟨h3,h4⟩=>⟨h _ _ _ h1 h3,All2.imp2 h h2 h4⟩
 | [],_ :: _,_,_,_,h=>h.elim
 | _ :: _,[],_,_,_,h=>h.elim
 | [],[],_ :: _,_,h,_=>h.elim
 | _ :: _,_ :: _,[],_,h,_=>h.elim
def AV.isCell:AV->Bool
 | .junk|.agg _|.tup _=>false
 | _=>true
theorem LeC_cell {σm τm:Nat->Option Blk} {u v:AV} (h:LeC σm τm ρ rng u v):u.isCell=true:=by
 cases v with
 | sc x=>obtain rfl:u=.sc x:=h; rfl
 | sl t l =>
  rcases h with ⟨h,_⟩|⟨rfl,_⟩
  ·cases u<;>first|rfl|cases h
  ·rfl
 | row k ver =>
  unfold LeC at h
  simp only at h
  split at h
  ·rfl
  ·rfl
  ·exact h.elim
 | ptr k off=>obtain ⟨rfl,_⟩:=h; rfl
 | ref t x off=>obtain ⟨rfl,_⟩:=h; rfl
 | ex e t x=>obtain ⟨rfl,_⟩:=h; rfl
 | _=>exact h.elim
theorem arep_cell {M:Mm} {u:AV} {x:Value} (h:ARep c M Γ w u x) (hc:u.isCell=true):CRep c M Γ w u x:=by
 cases u<;>first|exact h|cases hc
theorem vrep_cell {M:Mm} {u:AV} {x:Value} (h:VRep c M Γ w u x) (hc:u.isCell=true):CRep c M Γ w u x:=by
 cases u<;>first|exact h|cases hc
theorem nodup_inj {α β:Type} {f:α->β}:∀ {l:List α},(l.map f).Nodup->∀ {x y:α},x ∈ l->y ∈ l->f x=f y->x=y
 | [],_,_,_,h,_,_=>by cases h
 | z :: l,hn,x,y,hx,hy,e=>by
  rw [List.map_cons,List.nodup_cons] at hn
  rcases List.mem_cons.1 hx with e1|h1<;>rcases List.mem_cons.1 hy with e2|h2
  ·rw [e1,e2]
  ·exact (hn.1 (List.mem_map.2 ⟨y,h2,by rw [<-e,e1]⟩)).elim
  ·exact (hn.1 (List.mem_map.2 ⟨x,h1,by rw [e,e2]⟩)).elim
  ·exact nodup_inj hn.2 h1 h2 e
theorem wk_ofp {B:Blk} {k b:Nat} (hB:wkB (look σ.mem) (look τ.mem) ρ rng k B) (hm:b ∈ B.ofp (Γ.ren ρ) k):∃ B0,look σ.mem (ρ k)=some B0/\b ∈ B0.ofp Γ (ρ k):=by
 unfold wkB at hB
 split at hB
 ·rename_i e t v o l
  split at hB
  ·rename_i h0
   cases o with
   | false=>simp [Blk.ofp] at hm
   | true=>exact ⟨_,h0,by rw [hB.2.2 rfl]; exact hm⟩
  ·exact hB.elim
 ·split at hB
  ·rename_i h0; exact ⟨_,h0,hm⟩
  ·exact hB.elim
 ·simp [Blk.ofp] at hm
 ·exact hB.elim
theorem wk_sim (hs:Sim c σ Γ a w) (h:Wk σ τ):∃ Γ',Sim c τ Γ' a w:=by
 obtain ⟨L,hnd,hT,hM⟩:=h
 generalize hrng:(τ.mem.map fun p=>ren L p.1)=rng at hnd hT hM
 have hrng':=hrng.symm
 have hcr:∀ (u v:AV) (x:Value),CRep c σ.mem Γ w u x->LeC (look σ.mem) (look τ.mem) (ren L) rng u v->CRep c τ.mem (Γ.ren (ren L)) w v x:=fun _ _ _ h1 h2=>wk_crep hs hrng' hM h1 h2
 have har:∀ (u v:AV) (x:Value),ARep c σ.mem Γ w u x->LeA (look σ.mem) (look τ.mem) (ren L) rng u v->ARep c τ.mem (Γ.ren (ren L)) w v x:=by
  intro u v x h1 h2
  cases v with
  | agg cs =>
   cases u with
   | agg cs0=>obtain ⟨us,rfl,h1⟩:=h1; exact ⟨us,rfl,All2.imp2 hcr h1 h2⟩
   | _=>exact h2.elim
  | _ =>
   simp only [LeA] at h2
   have h3:=hcr _ _ x (arep_cell h1 (LeC_cell h2)) h2
   simp only [ARep]; exact h3
 have hvr:∀ (u v:AV) (x:Value),VRep c σ.mem Γ w u x->LeV (look σ.mem) (look τ.mem) (ren L) rng u v->VRep c τ.mem (Γ.ren (ren L)) w v x:=by
  intro u v x h1 h2
  cases v with
  | junk=>trivial
  | tup vs =>
   cases u with
   | tup us0=>obtain ⟨us,rfl,h1⟩:=h1; exact ⟨us,rfl,All2.imp2 har h1 h2⟩
   | _=>exact h2.elim
  | agg cs =>
   cases u with
   | agg cs0=>exact har (.agg cs0) (.agg cs) x h1 h2
   | _=>exact h2.elim
  | _ =>
   simp only [LeV,LeA] at h2
   have h3:=hcr _ _ x (vrep_cell h1 (LeC_cell h2)) h2
   simp only [VRep,ARep]; exact h3
 refine ⟨Γ.ren (ren L),fun d v hd=>?_,fun k B hk=>?_,fun k k' B B' b hk hk' hb hb'=>?_,fun k k' B B' b hk hk' hne hb hb'=>?_,hs.below,hs.hb,hs.defs,hs.sz⟩
 ·obtain ⟨u,h1,h2⟩:=wkT_get hT hd
  obtain ⟨x,h3,h4⟩:=hs.tm d u h1
  exact ⟨x,h3,hvr _ _ _ h4 h2⟩
 ·have hwb:=wkM_get hM hk
  cases B with
  | box cs =>
   simp only [wkB] at hwb
   split at hwb
   ·rename_i cs0 hk0
    obtain ⟨e1,us,e,e2,e3⟩:=hs.mm _ _ hk0
    exact ⟨e1,us,e,e2,All2.imp2 hcr e3 hwb⟩
   ·exact hwb.elim
  | row e t v o l =>
   simp only [wkB] at hwb
   split at hwb
   ·rename_i e0 t0 v0 o0 l0 hk0
    obtain ⟨rfl,hdd,ho⟩:=hwb
    injection hdd with d1 d2
    subst d1
    obtain rfl:=eq_of_heq d2
    obtain ⟨fps,e1,e2,e3,e4⟩:=hs.mm _ _ hk0
    exact ⟨fps,e1,e2,fun b hb=>wk_Gd hM (e3 b hb),fun h=>e4 (ho h)⟩
   ·exact hwb.elim
  | odat t l =>
   simp only [wkB] at hwb
   split at hwb
   ·rename_i t0 l0 hk0
    injection hwb with d1 d2
    subst d1
    obtain rfl:=eq_of_heq d2
    obtain ⟨e1,e2,e3⟩:=hs.mm _ _ hk0
    exact ⟨e1,fun b hb=>wk_Gd hM (e2 b hb),e3⟩
   ·exact hwb.elim
  | _=>exact hwb.elim
 ·obtain ⟨B0,h1,h2⟩:=wk_mut (wkM_get hM hk) hb
  obtain ⟨B1,h3,h4⟩:=wk_mut (wkM_get hM hk') hb'
  have:=hs.inj _ _ _ _ b h1 h3 h2 h4
  obtain ⟨q,hq,e⟩:=look_mem hk
  obtain ⟨q',hq',e'⟩:=look_mem hk'
  rw [<-hrng] at hnd
  have:=nodup_inj hnd hq hq' (by rw [e,e']; exact this)
  rw [<-e,<-e',this]
 ·obtain ⟨B0,h1,h2⟩:=wk_ofp (wkM_get hM hk) hb
  obtain ⟨B1,h3,h4⟩:=wk_ofp (wkM_get hM hk') hb'
  refine hs.disj _ _ _ _ b h1 h3 (fun he=>hne ?_) h2 h4
  obtain ⟨q,hq,e⟩:=look_mem hk
  obtain ⟨q',hq',e'⟩:=look_mem hk'
  rw [<-hrng] at hnd
  have:=nodup_inj hnd hq hq' (by rw [e,e']; exact he)
  rw [<-e,<-e',this]
end
section
variable (P:Program) (T:TypeId->Option Ty) (n:Nat)
def thenA (next:St->Prop) (Q:Exit->St->Prop):Exit->St->Prop
 | .normal,σ=>next σ
 | e,σ=>Q e σ
def inBlk (id:Nat) (Q:Exit->St->Prop):Exit->St->Prop
 | .exit i,σ=>if i=id then Q .normal σ else Q (.exit i) σ
 | e,σ=>Q e σ
def AC:Code->(Exit->St->Prop)->St->Prop
 | .skip,Q,σ=>Q .normal σ
 | .region _ ops draw,Q,σ =>
  match draw with
  | true=>AO P T n ops.toList ops.toList σ [] (fun σ' tr=>okTr ops.toList tr=true/\Q .normal σ')
  | false=>AO P T n ops.toList ops.toList σ [] (fun σ' _=>Q .normal σ')
 | .seq x y,Q,σ=>AC x (thenA (fun σ'=>AC y Q σ') Q) σ
 | .cond c x y,Q,σ =>
  match ev (look σ.tmps) c with
  | some (.sc (.bool b))=>(b=true->AC x Q σ)/\(b=false->AC y Q σ)
  | some (.nb p q)=>(p->AC x Q σ)/\(q->AC y Q σ)
  | _=>False
 | .block id x,Q,σ=>AC x (inBlk id Q) σ
 | .loop x,Q,σ=>∃ (δ:Type) (S:δ->St) (ok:δ->Prop) (μ:δ->Nat) (x0:δ),Wk σ (S x0)/\ok x0/\∀ y,ok y->AC x (thenA (fun σ'=>∃ y',Wk σ' (S y')/\ok y'/\μ y' < μ y) Q) (S y)
 | .exit id,Q,σ=>Q (.exit id) σ
 | .ret,Q,σ=>Q .ret σ
 | _,_,_=>False
end
section
variable {P:Program} {T:TypeId->Option Ty} {c:Cx}
theorem AC_wp (hT:TabOK P T) (hmix:P.follows .mixedOrders=true):∀ {x:Code} {Q:Exit->St->Prop} {Q':Exit->Act->World->Prop} {σ:St} {Γ:Asg} {a:Act} {w:World},AC P T c.n x Q σ->Sim c σ Γ a w →
  (∀ e σ' Γ' a' w',Q e σ'->Sim c σ' Γ' a' w'->Q' e a' w')->x.wp P Q' a w
 | .skip,Q,Q',σ,Γ,a,w,h,hs,hQ=>wp_skip (hQ _ _ _ _ _ h hs)
 | .region id ops draw,Q,Q',σ,Γ,a,w,h,hs,hQ=>by
  obtain ⟨l⟩:=ops
  cases draw with
  | true=>exact region_draw hT hmix hs h fun σ' Γ' a' w' hq hs'=>hQ _ _ _ _ _ hq hs'
  | false=>exact region_text hT hs h fun σ' Γ' a' w' hq hs'=>hQ _ _ _ _ _ hq hs'
 | .seq x y,Q,Q',σ,Γ,a,w,h,hs,hQ=>by
  refine wp_seq (AC_wp hT hmix (show AC P T c.n x _ σ from h) hs fun e σ' Γ' a' w' hq hs'=>?_)
  cases e with
  | normal=>exact AC_wp hT hmix (show AC P T c.n y Q σ' from hq) hs' hQ
  | _=>exact hQ _ _ _ _ _ hq hs'
 | .cond k x y,Q,Q',σ,Γ,a,w,h,hs,hQ=>by
  simp only [AC] at h
  split at h
  ·rename_i b hb
   have hv:a.eval k=.bool b:=(ev_rep hs (fun t _=>rfl) hb:VRep c σ.mem Γ w _ (a.eval k)).1
   cases b with
   | true=>exact wp_cond_true hv (AC_wp hT hmix (h.1 rfl) hs hQ)
   | false=>exact wp_cond_false hv (AC_wp hT hmix (h.2 rfl) hs hQ)
  ·rename_i p q hb
   obtain ⟨b,hv,hp,hq⟩:=(ev_rep hs (fun t _=>rfl) hb:VRep c σ.mem Γ w _ (a.eval k))
   cases b with
   | true=>exact wp_cond_true hv (AC_wp hT hmix (h.1 (hp rfl)) hs hQ)
   | false=>exact wp_cond_false hv (AC_wp hT hmix (h.2 (hq rfl)) hs hQ)
  ·exact h.elim
 | .block id x,Q,Q',σ,Γ,a,w,h,hs,hQ=>by
  refine wp_block (AC_wp hT hmix (show AC P T c.n x _ σ from h) hs fun e σ' Γ' a' w' hq hs'=>?_)
  cases e with
  | exit i =>
   simp only [inBlk,Exit.inBlock] at hq ⊢
   split
   ·rename_i e; rw [if_pos e] at hq; exact hQ _ _ _ _ _ hq hs'
   ·rename_i e; rw [if_neg e] at hq; exact hQ _ _ _ _ _ hq hs'
  | _=>exact hQ _ _ _ _ _ hq hs'
 | .loop x,Q,Q',σ,Γ,a,w,h,hs,hQ=>by
  obtain ⟨δ,S,ok,μ,x0,hw0,hk0,hround⟩:=h
  have hmin:∀ (a:Act) (w:World),(∃ m,∃ y Γ,ok y/\Sim c (S y) Γ a w/\μ y=m)->∃ m,(∃ y Γ,ok y/\Sim c (S y) Γ a w/\μ y=m)/\∀ y Γ,ok y->Sim c (S y) Γ a w->m<=μ y:=by
   rintro a w ⟨m,hm⟩
   induction m using Nat.strongRecOn with
   | _ m ih =>
    by_cases hlt:∃ y Γ,ok y/\Sim c (S y) Γ a w/\μ y < m
    ·obtain ⟨y,Γ,h1,h2,h3⟩:=hlt
     exact ih (μ y) h3 ⟨y,Γ,h1,h2,rfl⟩
    ·refine ⟨m,hm,fun y Γ h1 h2=>?_⟩
     rcases Nat.lt_or_ge (μ y) m with h3|h3
     ·exact absurd ⟨y,Γ,h1,h2,h3⟩ hlt
     ·exact h3
  have hfun:∃ ν:Act->World->Nat,∀ a w,(∃ m,∃ y Γ,ok y/\Sim c (S y) Γ a w/\μ y=m)->(∃ y Γ,ok y/\Sim c (S y) Γ a w/\μ y=ν a w)/\∀ y Γ,ok y->Sim c (S y) Γ a w->ν a w<=μ y:=by
   refine ⟨fun a w=>@dite _ (∃ m,∃ y Γ,ok y/\Sim c (S y) Γ a w/\μ y=m) (Classical.propDecidable _) (fun h=>Classical.choose (hmin a w h)) (fun _=>0),fun a w h=>?_⟩
   simp only [dif_pos h]
   exact Classical.choose_spec (hmin a w h)
  obtain ⟨ν,hν⟩:=hfun
  obtain ⟨Γ0,hs0⟩:=wk_sim hs hw0
  refine wp_loop (fun a w=>∃ y Γ,ok y/\Sim c (S y) Γ a w) ν ⟨x0,Γ0,hk0,hs0⟩ fun a1 w1 hI=>?_
  obtain ⟨y0,Γ1,h1,h2⟩:=hI
  obtain ⟨⟨y,Γ2,h3,h4,h5⟩,h6⟩:=hν a1 w1 ⟨_,y0,Γ1,h1,h2,rfl⟩
  refine AC_wp hT hmix (hround y h3) h4 fun e σ' Γ' a' w' hq hs'=>?_
  cases e with
  | normal =>
   obtain ⟨y',hwk,hk',hlt⟩:=hq
   obtain ⟨Γ3,hs3⟩:=wk_sim hs' hwk
   refine ⟨⟨y',Γ3,hk',hs3⟩,?_⟩
   have:=(hν a' w' ⟨_,y',Γ3,hk',hs3,rfl⟩).2 y' Γ3 hk' hs3
   omega
  | _=>exact hQ _ _ _ _ _ hq hs'
 | .exit id,Q,Q',σ,Γ,a,w,h,hs,hQ=>wp_exit (hQ _ _ _ _ _ h hs)
 | .ret,Q,Q',σ,Γ,a,w,h,hs,hQ=>wp_ret (hQ _ _ _ _ _ h hs)
 | .rangeFunc ..,_,_,_,_,_,_,h,_,_=>h.elim
 | .scope _,_,_,_,_,_,_,h,_,_=>h.elim
 | .label _,_,_,_,_,_,_,h,_,_=>h.elim
 | .goto _,_,_,_,_,_,_,h,_,_=>h.elim
 | .refuse _,_,_,_,_,_,_,h,_,_=>h.elim
end
end Go.Proofs.YtffdhjnbppagjaaGreat.DW

namespace Go.Proofs.YtffdhjnbppagjaaGreat.DW
open Go.RowKit
def Wf:(t:Ty)->t.den->Prop
 | .int,n=>I64 n
 | .bool,_=>True
 | .str,s=>s.size<=maxLen
 | .u8,n=>0<=n/\n<=255
 | .cst _,_=>True
 | .prod a b,x=>Wf a x.1/\Wf b x.2
 | .slice a,l=>l.length<=maxLen/\∀ x ∈ l,Wf a x
 | .ext e a,x=>∀ y,x=some y->e=.ref->Wf a y
theorem rep_wf {w:World}:∀ {t:Ty} {x:t.den} {cs:List Value} {fp:List Nat},t.rp.rep w cs x fp->Wf t x
 | .int,_,_,_,h=>h.2.2
 | .bool,_,_,_,_=>trivial
 | .str,_,_,_,h=>h.2.2
 | .u8,_,_,_,h=>h.2.2
 | .cst _,_,_,_,_=>trivial
 | .prod a b,x,cs,fp,h=>by obtain ⟨c1,c2,f1,f2,_,_,h1,h2⟩:=h; exact ⟨rep_wf h1,rep_wf h2⟩
 | .ext e a,x,cs,fp,h=>by
  intro y hy he
  subst hy he
  obtain ⟨_,_,_,_,_,_,hr,_⟩:=h
  exact rep_wf hr
 | .slice a,l,cs,fp,h=>by
  obtain ⟨ad,cc,rfl,h2,h3,h4⟩:=h
  refine ⟨Nat.le_trans h2 h3,fun x hx=>?_⟩
  rcases h4 with ⟨rfl,_⟩|⟨b,off,fps,hl,_,_,_,he⟩
  ·cases hx
  ·obtain ⟨i,hi,rfl⟩:=List.getElem_of_mem hx
   obtain ⟨f,cs,_,hr,_⟩:=he i _ (List.getElem?_eq_getElem hi)
   exact rep_wf hr
section
variable (T:TypeId->Option Ty) (σ:St)
def aRes:ResultVar->Option AV
 | .tmp t=>look σ.tmps t
 | .cell t ty =>
  match T ty,look σ.tmps t with
  | some tt,some (.ptr k off) =>
   match look σ.mem k with
   | some (.box cs)=>if off+tt.size<=cs.length then some (getC tt cs off) else none
   | _=>none
  | _,_=>none
def OwnA (v:AV):Prop:=(cellsOf v).all (OwnC σ)=true/\(cellRows (cellsOf v)).Nodup
def RetOK (own:Bool) (rs:List ResultVar) (res:List Dat):Prop :=
 match rs,res with
 | [r],[d] =>
  match aRes T σ r with
  | some v=>v.ok=true/\IsV (look σ.mem) d v/\(own=true->OwnA σ v)
  | none=>False
 | rs,ds=>rs.length ≠ 1/\All2 (fun r d=>match aRes T σ r with
  | some v=>v.ok=true/\IsV (look σ.mem) d v
  | none=>False) rs ds
end
def argTm (i:Nat):List Dat->Tm
 | []=>[]
 | d :: ds=>(i,av d.1 d.2) :: argTm (i+1) ds
section
variable {P:Program} {T:TypeId->Option Ty} {c:Cx} {σ:St} {Γ:Asg} {a:Act} {w:World}
def resM (tmps:Array Value):ResultVar->Sem Value
 | .tmp t=>pure (tmps.getD t undef)
 | .cell x t=>do loadVar t (<-asAddr (tmps.getD x undef))
theorem results_eq (fn:Func) (tmps:Array Value):results fn tmps=(do let vs <-fn.results.mapM (resM tmps); pure (if h:vs.size=1 then vs[0] else .tuple vs)):=by
 have:(resM tmps)=fun r=>(match r with|.tmp t=>pure (tmps.getD t undef)|.cell x t=>do loadVar t (<-asAddr (tmps.getD x undef)):Sem Value):=by funext r; cases r<;>rfl
 rw [this]; rfl
theorem aRes_run (hT:TabOK P T) (hs:Sim c σ Γ a w) {r:ResultVar} {v:AV} (h:aRes T σ r=some v) (hok:v.ok=true) :
  ∃ u,(resM a.tmps r).run P w=.ok u w/\ARep c σ.mem Γ w v u:=by
 cases r with
 | tmp t =>
  obtain ⟨u,h1,h2⟩:=hs.tm t v h
  refine ⟨u,?_,ok_arep h2 hok⟩
  simp only [resM,Sem.run_pure]
  rw [Array.getD_eq_getD_getElem?,h1]; rfl
 | cell t ty =>
  simp only [aRes] at h
  split at h
  ·rename_i tt k off ht hp
   split at h
   ·rename_i cs hk
    split at h
    ·rename_i hle
     injection h with h
     subst h
     obtain ⟨us,e,hg,hc⟩:=box_cell hs hk
     obtain ⟨u,h1,h2⟩:=hs.tm t _ hp
     have h2':u=.pointer (some ⟨Γ.β k,off,none⟩):=h2.1
     subst h2'
     have hlen:=hc.len
     have hrun:=run_loadVar (P:=P) (hT ty tt ht) (w:=w) (b:=Γ.β k) (off:=off) (us:=(us.toList.drop off).take tt.size) (fun j v hv=>by
      rw [List.getElem?_take] at hv
      split at hv
      ·rw [List.getElem?_drop,Array.getElem?_toList] at hv
       rw [cell_of_row w _ _ us e (0,0) hg]; exact hv
      ·cases hv) (by rw [hlen] at hle; rw [List.length_take,List.length_drop]; omega)
     have hgc:=getC_rep hc hle
     refine ⟨_,?_,hgc⟩
     simp only [resM,Array.getD_eq_getD_getElem?,h1,Option.getD_some,asAddr,Sem.run_bind,Sem.run_pure,Result.andThen_ok,hrun]
     cases ha:tt.isAgg with
     | true=>rfl
     | false =>
      simp only [Bool.false_eq_true,if_false]
      have:=tt.pos; rw [tt.rp_size] at this
      rw [List.getD_eq_getElem?_getD,List.getElem?_take,if_pos this,List.getElem?_drop,Nat.add_zero,List.getD_eq_getElem?_getD]
    ·cases h
   ·cases h
  ·cases h
theorem argTm_ge:∀ {ds:List Dat} {i d:Nat} {v:AV},look (argTm i ds) d=some v->i<=d/\d < i+ds.length/\∃ e,ds[d - i]? = some e/\v=av e.1 e.2
 | [],_,_,_,h=>by cases h
 | e :: ds,i,d,v,h=>by
  simp only [argTm,look] at h
  split at h
  ·rename_i hd; injection h with h; subst hd h; exact ⟨Nat.le_refl _,by simp,e,by simp,rfl⟩
  ·obtain ⟨h1,h2,e',h3,h4⟩:=argTm_ge h
   refine ⟨by omega,by simp; omega,e',?_,h4⟩
   rw [show d - i=(d - (i+1))+1 by omega]; exact h3
theorem ret_ok (hT:TabOK P T) {fn:Func} {own:Bool} {res:List Dat} (hs:Sim c σ Γ a w) (h:RetOK T σ own fn.results.toList res):∃ v,(results fn a.tmps).run P w=.ok v w/\ResOK own c.base c.S w v res:=by
 unfold RetOK at h
 have hone:∀ {r:ResultVar} {d:Dat} {v:AV} {u:Value},ARep c σ.mem Γ w v u->IsV (look σ.mem) d v->DRes false c.base c.S w u d:=by
  intro r d v u hr hi
  obtain ⟨fp,h1,h2,_⟩:=hs.isVRep hr hi
  exact ⟨fp,h1,(fun h=>by cases h),h2⟩
 split at h
 ·rename_i r d hr
  split at h
  ·rename_i v hv
   obtain ⟨hok,hi,hown⟩:=h
   obtain ⟨u,h1,h2⟩:=aRes_run (P:=P) hT hs hv hok
   have hfr:fn.results=#[r]:=toList1 hr
   refine ⟨u,?_,?_⟩
   ·rw [results_eq,hfr,List.mapM_toArray,map_eq_pure_bind,Sem.run_bind,Sem.run_bind]
    simp only [List.mapM_cons,List.mapM_nil,Sem.run_bind,h1,Result.andThen_ok,Sem.run_pure]
    simp
   ·cases own with
    | false=>exact hone (r:=r) h2 hi
    | true =>
     obtain ⟨ho,hn⟩:=hown rfl
     cases v with
     | agg cs =>
      obtain ⟨us,rfl,hc⟩:=h2
      obtain ⟨fp,r1,o1,_⟩:=hs.ownRep hc hi.2 ho hn
      exact ⟨fp,⟨us,.inl ⟨hi.1,rfl⟩,r1⟩,fun _=>o1,fun b hb=>.inr (o1.2 b hb).1⟩
     | junk=>cases hok
     | tup _=>cases hok
     | _ =>
      have h2':=h2
      simp only [ARep] at h2'
      obtain ⟨fp,r1,o1,_⟩:=hs.ownRep (cs:=[_]) (us:=[u]) (And.intro h2' trivial) hi.2 ho hn
      exact ⟨fp,⟨[u],.inr ⟨hi.1,rfl⟩,r1⟩,fun _=>o1,fun b hb=>.inr (o1.2 b hb).1⟩
  ·exact h.elim
 ·rename_i ds _ _ hnot
  obtain ⟨hl1,h⟩:=h
  have key:∀ {rs:List ResultVar} {ds:List Dat},All2 (fun r d=>match aRes T σ r with
    | some v=>v.ok=true/\IsV (look σ.mem) d v
    | none=>False) rs ds->∃ us:List Value,(rs.mapM (resM a.tmps)).run P w=.ok us w/\us.length=rs.length/\All2 (DRes false c.base c.S w) us ds:=by
   intro rs
   induction rs with
   | nil=>intro ds h; cases ds with|nil=>exact ⟨[],rfl,rfl,trivial⟩|cons=>exact h.elim
   | cons r rs ih =>
    intro ds h
    cases ds with
    | nil=>exact h.elim
    | cons d ds =>
     obtain ⟨h1,h2⟩:=h
     split at h1
     ·rename_i v hv
      obtain ⟨u,g1,g2⟩:=aRes_run (P:=P) hT hs hv h1.1
      obtain ⟨us,g3,g4,g5⟩:=ih h2
      refine ⟨u :: us,?_,by simp [g4],hone (r:=r) g2 h1.2,g5⟩
      simp only [List.mapM_cons,Sem.run_bind,g1,g3,Result.andThen_ok,Sem.run_pure]
     ·exact h1.elim
  obtain ⟨us,h1,h2,h3⟩:=key h
  have hfr:fn.results=fn.results.toList.toArray:=by simp
  refine ⟨.tuple us.toArray,?_,?_⟩
  ·rw [results_eq,hfr,List.mapM_toArray,map_eq_pure_bind,Sem.run_bind,Sem.run_bind,h1]
   simp only [Result.andThen_ok,Sem.run_pure]
   rw [dif_neg (by simp only [List.size_toArray]; omega)]
  ·cases ds with
   | nil=>exact ⟨us,rfl,h3⟩
   | cons d ds =>
    cases ds with
    | nil =>
     have:=h3.len
     simp at this
     omega
    | cons d' ds=>exact ⟨us,rfl,h3⟩
theorem fn_gen (hT:TabOK P T) (hmix:P.follows .mixedOrders=true) {f:FuncId} {fn:Func} {code:Code} {args:List Dat} {RQ:St->Prop} {VQ:Nat->(Nat->Prop)->World->Value->Prop} (hf:P.funcs[f]? = some fn) (hname:(fn.name == "runtime.NumGoroutine")=false) (hb:fn.body=some code) (hn:args.length<=fn.ntmps)
  (hret:∀ (c:Cx) (σ:St) (Γ:Asg) (a:Act) (w:World),Sim c σ Γ a w->RQ σ->∃ v,(results fn a.tmps).run P w=.ok v w/\VQ c.base c.S w v)
  (h:(∀ d ∈ args,Wf d.1 d.2)->AC P T fn.ntmps code (fun e σ=>match e with
   | .normal|.ret=>RQ σ
   | _=>False) ⟨argTm 0 args,[]⟩):(∀ vs w,(callFunc f vs).run P w=.ok (.enter f vs) w) ∧
  ∀ (w:World) (vs:List Value) (S:Nat->Prop),All2 (fun v d=>∃ fp,DRep w v d fp/\∀ b ∈ fp,S b) vs args →
   Calls P f vs.toArray w fun e w'=>Below w.heap.size w w'/\∃ v,e=.returned v/\VQ w.heap.size S w' v:=by
 refine ⟨fun vs w=>?_,fun w vs S hargs=>?_⟩
 ·have h1:fn.name ≠ "runtime.NumGoroutine":=by simpa using hname
  simp [callFunc,hf,h1,hb]
 ·refine calls_of_wp hf hb ?_
  have hwf:∀ d ∈ args,Wf d.1 d.2:=by
   clear h hn
   revert hargs
   generalize args=ds
   intro hargs
   induction ds generalizing vs with
   | nil=>intro d hd; cases hd
   | cons d ds ih =>
    cases vs with
    | nil=>exact hargs.elim
    | cons v vs =>
     obtain ⟨⟨fp,⟨cs,_,hr⟩,_⟩,h2⟩:=hargs
     intro d' hd'
     rcases List.mem_cons.1 hd' with rfl|hd'
     ·exact rep_wf hr
     ·exact ih vs h2 d' hd'
  have hlen:=hargs.len
  let c:Cx:=⟨w.heap.size,w,S,fn.ntmps⟩
  have hlt:∀ {d:Dat} {v:Value} {fp:List Nat},DRep w v d fp->∀ b ∈ fp,b < w.heap.size:=fun ⟨cs,_,hr⟩=>(Ty.rp _).lt hr
  have hs:Sim c ⟨argTm 0 args,[]⟩ ⟨fun _=>0,fun _=>undef,fun _=>[]⟩ { tmps:=vs.toArray++Array.replicate (fn.ntmps - vs.toArray.size) undef,defers:=[] } w:=by
   refine ⟨fun d v hd=>?_,fun k B hk=>(by cases hk),fun k k' B B' b hk=>(by cases hk),fun k k' B B' b hk=>(by cases hk),Below.refl _ _,Nat.le_refl _,rfl,by simp [c]; omega⟩
   obtain ⟨_,h2,e,h3,rfl⟩:=argTm_ge hd
   have hdl:d < vs.length:=by omega
   have hx:∃ u,vs[d]? = some u/\∃ fp,DRep w u e fp/\∀ b ∈ fp,S b:=by
    have hh:∀ {ds:List Dat} {vs:List Value} {d:Nat},All2 (fun v d=>∃ fp,DRep w v d fp/\∀ b ∈ fp,S b) vs ds->ds[d]? = some e->∃ u,vs[d]? = some u/\∃ fp,DRep w u e fp/\∀ b ∈ fp,S b:=by
     intro ds
     induction ds with
     | nil=>intro vs d _ h; simp at h
     | cons d0 ds ih =>
      intro vs d hA h
      cases vs with
      | nil=>exact hA.elim
      | cons v vs =>
       cases d with
       | zero=>simp at h; subst h; exact ⟨v,rfl,hA.1⟩
       | succ d=>simpa using ih hA.2 (by simpa using h)
    exact hh hargs (by simpa using h3)
   obtain ⟨u,hu,fp,hdr,hS⟩:=hx
   refine ⟨u,?_,arep_vrep (av_rep hdr fun b hb=>⟨.inl (hS b hb),fun ⟨k,B,hk,_⟩=>by cases hk⟩)⟩
   rw [Array.getElem?_append_left (by simpa using hdl)]
   simpa using hu
  refine AC_wp (c:=c) hT hmix (h hwf) hs fun e σ' Γ' a' w' hq hs'=>?_
  cases e with
  | normal =>
   obtain ⟨v,h1,h2⟩:=hret _ _ _ _ _ hs' hq
   exact ⟨hs'.defs,v,h1,hs'.below,v,rfl,h2⟩
  | ret =>
   obtain ⟨v,h1,h2⟩:=hret _ _ _ _ _ hs' hq
   exact ⟨hs'.defs,v,h1,hs'.below,v,rfl,h2⟩
  | _=>exact hq.elim
theorem fn_intro (hT:TabOK P T) (hmix:P.follows .mixedOrders=true) {f:FuncId} {fn:Func} {code:Code} {args:List Dat} {own:Bool} {res:List Dat} (hf:P.funcs[f]? = some fn) (hname:(fn.name == "runtime.NumGoroutine")=false) (hb:fn.body=some code) (hn:args.length<=fn.ntmps)
  (h:(∀ d ∈ args,Wf d.1 d.2)->AC P T fn.ntmps code (fun e σ=>match e with
   | .normal|.ret=>RetOK T σ own fn.results.toList res
   | _=>False) ⟨argTm 0 args,[]⟩):Fn P f args own res :=
 fn_gen (VQ:=fun b S w v=>ResOK own b S w v res) hT hmix hf hname hb hn (fun c σ Γ a w hs hq=>ret_ok (P:=P) hT hs hq) h
def RetT (T:TypeId->Option Ty) (rs:List ResultVar) (res:List Dat) (σ:St):Prop :=
 rs.length ≠ 1/\All2 (fun r d=>match aRes T σ r with
  | some v=>v.ok=true/\IsV (look σ.mem) d v/\OwnA σ v
  | none=>False) rs res
end
end Go.Proofs.YtffdhjnbppagjaaGreat.DW

namespace Go.Proofs.YtffdhjnbppagjaaGreat.DW
open Go.RowKit
section
variable (P:Program) (T:TypeId->Option Ty) (n:Nat)
def KAO (ops os:List Oper) (σ:St) (d:Option Nat) (tr:Tr) (Q:St->Tr->Prop) (e:Eff):Prop:=AO P T n ops os (σ.app d e) (tr++[e.te]) Q
def KAC (y:Code) (Q:Exit->St->Prop) (σ:St):Prop:=AC P T n y Q σ
def KN (Q:Exit->St->Prop) (σ:St) (_:Tr):Prop:=Q .normal σ
def KD (ops:List Oper) (Q:Exit->St->Prop) (σ:St) (tr:Tr):Prop:=okTr ops tr=true/\Q .normal σ
def KR (rs:List ResultVar) (own:Bool) (res:List Dat) (e:Exit) (σ:St):Prop :=
 match e with
 | .normal|.ret=>RetOK T σ own rs res
 | _=>False
def KRT (rs:List ResultVar) (res:List Dat) (e:Exit) (σ:St):Prop :=
 match e with
 | .normal|.ret=>RetT T rs res σ
 | _=>False
def LoopG (x:Code) (Q:Exit->St->Prop) (σ:St):Prop:=∃ (δ:Type) (S:δ->St) (ok:δ->Prop) (μ:δ->Nat) (x0:δ),Wk σ (S x0)/\ok x0/\∀ y,ok y->AC P T n x (thenA (fun σ'=>∃ y',Wk σ' (S y')/\ok y'/\μ y' < μ y) Q) (S y)
def LoopK {δ:Type} (S:δ->St) (ok:δ->Prop) (μ:δ->Nat) (y:δ) (σ':St):Prop:=∃ y',Wk σ' (S y')/\ok y'/\μ y' < μ y
theorem LoopG.intro {x:Code} {Q:Exit->St->Prop} {σ:St} {δ:Type} (S:δ->St) (ok:δ->Prop) (μ:δ->Nat) (x0:δ) (h1:Wk σ (S x0)) (h2:ok x0) (h3:∀ y,ok y->AC P T n x (thenA (LoopK S ok μ y) Q) (S y)):LoopG P T n x Q σ:=⟨δ,S,ok,μ,x0,h1,h2,h3⟩
theorem LoopK.mk {δ:Type} {S:δ->St} {ok:δ->Prop} {μ:δ->Nat} {y:δ} {σ':St} (y':δ) (h1:Wk σ' (S y')) (h2:ok y') (h3:μ y' < μ y):LoopK S ok μ y σ':=⟨y',h1,h2,h3⟩
def WkL (L:List (Nat × Nat)) (σ τ:St):Prop:=((τ.mem.map fun p=>ren L p.1).Nodup)/\wkT (look σ.mem) (look τ.mem) (ren L) (τ.mem.map fun p=>ren L p.1) σ.tmps τ.tmps/\wkM (look σ.mem) (look τ.mem) (ren L) (τ.mem.map fun p=>ren L p.1) τ.mem
theorem Wk.mk {σ τ:St} (L:List (Nat × Nat)) (h:WkL L σ τ):Wk σ τ:=⟨L,h⟩
variable {P T n} {ops os:List Oper} {o:Oper} {σ:St} {tr:Tr} {Q:St->Tr->Prop} {QA:Exit->St->Prop} {x y:Code} {i j:Nat} {e:Eff}
@[go_sem] theorem KAO_app {d:Option Nat}:KAO P T n ops os σ d tr Q e=AO P T n ops os (σ.app d e) (tr++[e.te]) Q:=(rfl)
@[go_sem] theorem KAC_app:KAC P T n y QA σ=AC P T n y QA σ:=(rfl)
@[go_sem] theorem KN_app:KN QA σ tr=QA .normal σ:=(rfl)
@[go_sem] theorem KD_app:KD ops QA σ tr=(okTr ops tr=true/\QA .normal σ):=(rfl)
@[go_sem] theorem AO_nil:AO P T n ops [] σ tr Q=Q σ tr:=(rfl)
@[go_sem] theorem AO_cons {d:Option Nat} {op:Op} {t:TypeId} {ps:String} {af:Array Edge}:AO P T n ops (⟨d,op,t,ps,af,none⟩ :: os) σ tr Q =
  ((match d with|some d=>d < n|none=>True)/\aStep P T (look σ.tmps) (look σ.mem) (fresh σ.mem) (KAO P T n ops os σ d tr Q) ⟨d,op,t,ps,af,none⟩):=(rfl)
def Guarded (P:Program) (T:TypeId->Option Ty) (n:Nat) (ops os:List Oper) (o:Oper) (σ:St) (tr:Tr) (Q:St->Tr->Prop) (want:Bool) (g:Option Nat):Prop :=
 match g with
 | some g =>
  match look σ.tmps g with
  | some (.sc (.bool b)) =>
   (b=want->aStep P T (look ((g,.sc (.bool want)) :: σ.tmps)) (look σ.mem) (fresh σ.mem) (KAO P T n ops os ⟨(g,.sc (.bool want)) :: σ.tmps,σ.mem⟩ o.dst tr Q) o) ∧
   (b=!want->AO P T n ops os (St.app ⟨(g,.sc (.bool (!want))) :: σ.tmps,σ.mem⟩ o.dst .skip) (tr++[Eff.te .skip]) Q)
  | some (.tup _)=>AO P T n ops os (σ.app o.dst .skip) (tr++[Eff.te .skip]) Q
  | _=>False
 | none=>False
@[go_sem] theorem AO_guard {d:Option Nat} {op:Op} {t:TypeId} {ps:String} {af:Array Edge} {want:Bool}:AO P T n ops (⟨d,op,t,ps,af,some (j,want)⟩ :: os) σ tr Q =
  ((match d with|some d=>d < n|none=>True)/\Guarded P T n ops os ⟨d,op,t,ps,af,some (j,want)⟩ σ tr Q want (gslot ops j)):=(rfl)
def GuardW (P:Program) (T:TypeId->Option Ty) (n:Nat) (ops os:List Oper) (o:Oper) (σ:St) (tr:Tr) (Q:St->Tr->Prop) (want:Bool) (g:Nat) (v:Option AV):Prop :=
 match v with
 | some (.sc (.bool b)) =>
  (b=want->aStep P T (look ((g,.sc (.bool want)) :: σ.tmps)) (look σ.mem) (fresh σ.mem) (KAO P T n ops os ⟨(g,.sc (.bool want)) :: σ.tmps,σ.mem⟩ o.dst tr Q) o) ∧
  (b=!want->AO P T n ops os (St.app ⟨(g,.sc (.bool (!want))) :: σ.tmps,σ.mem⟩ o.dst .skip) (tr++[Eff.te .skip]) Q)
 | some (.tup _)=>AO P T n ops os (σ.app o.dst .skip) (tr++[Eff.te .skip]) Q
 | _=>False
@[go_sem] theorem Guarded_some {want:Bool} {g:Nat}:Guarded P T n ops os o σ tr Q want (some g)=GuardW P T n ops os o σ tr Q want g (look σ.tmps g):=(rfl)
@[go_sem] theorem GuardW_no {want:Bool} {g:Nat} {vs:List AV}:GuardW P T n ops os o σ tr Q want g (some (.tup vs))=AO P T n ops os (σ.app o.dst .skip) (tr++[Eff.te .skip]) Q:=(rfl)
@[go_sem] theorem GuardW_tt {g:Nat}:GuardW P T n ops os o σ tr Q true g (some (.sc (.bool true)))=aStep P T (look ((g,.sc (.bool true)) :: σ.tmps)) (look σ.mem) (fresh σ.mem) (KAO P T n ops os ⟨(g,.sc (.bool true)) :: σ.tmps,σ.mem⟩ o.dst tr Q) o:=by simp [GuardW]
@[go_sem] theorem GuardW_ff {g:Nat}:GuardW P T n ops os o σ tr Q false g (some (.sc (.bool false)))=aStep P T (look ((g,.sc (.bool false)) :: σ.tmps)) (look σ.mem) (fresh σ.mem) (KAO P T n ops os ⟨(g,.sc (.bool false)) :: σ.tmps,σ.mem⟩ o.dst tr Q) o:=by simp [GuardW]
@[go_sem] theorem GuardW_tf {g:Nat}:GuardW P T n ops os o σ tr Q true g (some (.sc (.bool false)))=AO P T n ops os (St.app ⟨(g,.sc (.bool false)) :: σ.tmps,σ.mem⟩ o.dst .skip) (tr++[Eff.te .skip]) Q:=by simp [GuardW]
@[go_sem] theorem GuardW_ft {g:Nat}:GuardW P T n ops os o σ tr Q false g (some (.sc (.bool true)))=AO P T n ops os (St.app ⟨(g,.sc (.bool true)) :: σ.tmps,σ.mem⟩ o.dst .skip) (tr++[Eff.te .skip]) Q:=by simp [GuardW]
@[go_sem] theorem AC_skip:AC P T n .skip QA σ=QA .normal σ:=(rfl)
@[go_sem] theorem AC_text {id:Nat} {l:List Oper}:AC P T n (.region id l.toArray false) QA σ=AO P T n l l σ [] (KN QA):=(rfl)
@[go_sem] theorem AC_draw {id:Nat} {l:List Oper}:AC P T n (.region id l.toArray true) QA σ=AO P T n l l σ [] (KD l QA):=(rfl)
@[go_sem] theorem AC_seq:AC P T n (.seq x y) QA σ=AC P T n x (thenA (KAC P T n y QA) QA) σ:=(rfl)
def CondW (P:Program) (T:TypeId->Option Ty) (n:Nat) (x y:Code) (Q:Exit->St->Prop) (σ:St) (v:Option AV):Prop :=
 match v with
 | some (.sc (.bool b))=>(b=true->AC P T n x Q σ)/\(b=false->AC P T n y Q σ)
 | some (.nb p q)=>(p->AC P T n x Q σ)/\(q->AC P T n y Q σ)
 | _=>False
@[go_sem] theorem AC_cond {k:Operand}:AC P T n (.cond k x y) QA σ=CondW P T n x y QA σ (ev (look σ.tmps) k):=(rfl)
@[go_sem] theorem CondW_t:CondW P T n x y QA σ (some (.sc (.bool true)))=AC P T n x QA σ:=by simp [CondW]
@[go_sem] theorem CondW_f:CondW P T n x y QA σ (some (.sc (.bool false)))=AC P T n y QA σ:=by simp [CondW]
theorem CondW_dec {p:Prop} {dp:Decidable p} (h1:p->AC P T n x QA σ) (h2:¬ p->AC P T n y QA σ):CondW P T n x y QA σ (some (.sc (.bool (@decide p dp)))) :=
 ⟨fun h=>h1 (of_decide_eq_true h),fun h=>h2 (of_decide_eq_false h)⟩
theorem CondW_not {p:Prop} {dp:Decidable p} (h1:¬ p->AC P T n x QA σ) (h2:p->AC P T n y QA σ):CondW P T n x y QA σ (some (.sc (.bool (!@decide p dp)))):=by
 refine ⟨fun h=>h1 (of_decide_eq_false (by simpa using h)),fun h=>h2 (of_decide_eq_true (by simpa using h))⟩
theorem CondW_nb {p q:Prop} (h1:p->AC P T n x QA σ) (h2:q->AC P T n y QA σ):CondW P T n x y QA σ (some (.nb p q)):=⟨h1,h2⟩
theorem CondW_b {b:Bool} (h1:b=true->AC P T n x QA σ) (h2:b=false->AC P T n y QA σ):CondW P T n x y QA σ (some (.sc (.bool b))):=⟨h1,h2⟩
theorem GuardW_dec {p:Prop} {dp:Decidable p} {g:Nat} (h1:p->aStep P T (look ((g,.sc (.bool true)) :: σ.tmps)) (look σ.mem) (fresh σ.mem) (KAO P T n ops os ⟨(g,.sc (.bool true)) :: σ.tmps,σ.mem⟩ o.dst tr Q) o)
  (h2:¬ p->AO P T n ops os (St.app ⟨(g,.sc (.bool false)) :: σ.tmps,σ.mem⟩ o.dst .skip) (tr++[Eff.te .skip]) Q):GuardW P T n ops os o σ tr Q true g (some (.sc (.bool (@decide p dp)))) :=
 ⟨fun h=>h1 (of_decide_eq_true h),fun h=>h2 (of_decide_eq_false h)⟩
theorem GuardW_decf {p:Prop} {dp:Decidable p} {g:Nat} (h1:¬ p->aStep P T (look ((g,.sc (.bool false)) :: σ.tmps)) (look σ.mem) (fresh σ.mem) (KAO P T n ops os ⟨(g,.sc (.bool false)) :: σ.tmps,σ.mem⟩ o.dst tr Q) o)
  (h2:p->AO P T n ops os (St.app ⟨(g,.sc (.bool true)) :: σ.tmps,σ.mem⟩ o.dst .skip) (tr++[Eff.te .skip]) Q):GuardW P T n ops os o σ tr Q false g (some (.sc (.bool (@decide p dp)))) :=
 ⟨fun h=>h1 (of_decide_eq_false h),fun h=>h2 (of_decide_eq_true h)⟩
@[go_sem] theorem AC_block {id:Nat}:AC P T n (.block id x) QA σ=AC P T n x (inBlk id QA) σ:=(rfl)
@[go_sem] theorem AC_loop:AC P T n (.loop x) QA σ=LoopG P T n x QA σ:=(rfl)
@[go_sem] theorem AC_exit {id:Nat}:AC P T n (.exit id) QA σ=QA (.exit id) σ:=(rfl)
@[go_sem] theorem AC_ret:AC P T n .ret QA σ=QA .ret σ:=(rfl)
variable {nt:St->Prop}
@[go_sem] theorem thenA_n:thenA nt QA .normal σ=nt σ:=(rfl)
@[go_sem] theorem thenA_e:thenA nt QA (.exit i) σ=QA (.exit i) σ:=(rfl)
@[go_sem] theorem thenA_r:thenA nt QA .ret σ=QA .ret σ:=(rfl)
@[go_sem] theorem inBlk_n:inBlk i QA .normal σ=QA .normal σ:=(rfl)
@[go_sem] theorem inBlk_e:inBlk i QA (.exit j) σ=if j=i then QA .normal σ else QA (.exit j) σ:=(rfl)
@[go_sem] theorem inBlk_r:inBlk i QA .ret σ=QA .ret σ:=(rfl)
@[go_sem] theorem KR_n {rs:List ResultVar} {own:Bool} {res:List Dat}:KR T rs own res .normal σ=RetOK T σ own rs res:=(rfl)
@[go_sem] theorem KR_r {rs:List ResultVar} {own:Bool} {res:List Dat}:KR T rs own res .ret σ=RetOK T σ own rs res:=(rfl)
@[go_sem] theorem KRT_n {rs:List ResultVar} {res:List Dat}:KRT T rs res .normal σ=RetT T rs res σ:=(rfl)
@[go_sem] theorem KRT_r {rs:List ResultVar} {res:List Dat}:KRT T rs res .ret σ=RetT T rs res σ:=(rfl)
@[go_sem] theorem fresh_nil:fresh []=0:=(rfl)
@[go_sem] theorem fresh_cons {k:Nat} {B:Blk} {M:Mm}:fresh ((k,B) :: M)=if k+1<=fresh M then fresh M else k+1:=by
 have e:fresh ((k,B) :: M)=max (k+1) (fresh M):=(rfl)
 rw [e]
 by_cases h:k+1<=fresh M
 ·rw [if_pos h,Nat.max_eq_right h]
 ·rw [if_neg h,Nat.max_eq_left (by omega)]
theorem NilW.non {K:Eff->Prop} {p:Prop} {rd:List Nat} {neg:Bool} (h:¬ p) (hk:K ⟨.sc (.bool neg),[],rd⟩):NilW K p rd neg:=.inl ⟨h,hk⟩
theorem NilW.eq {K:Eff->Prop} {p:Prop} {rd:List Nat} (hk:K ⟨.nb p True,[],rd⟩):NilW K p rd false:=.inr hk
theorem CallW.mk {P:Program} {lm:Nat->Option Blk} {nx:Nat} {K:Eff->Prop} {f:FuncId} {vs:List AV} {args:List Dat} {own:Bool} {res:List Dat} (h:Fn P f args own res) (hk:All2 (fun v d=>IsV (lmF lm (vs.flatMap AV.rows) (apartR own res)) d v) vs args/\K (callEff lm nx (vs.flatMap AV.rows) own res)):CallW P lm nx K f vs:=.inl ⟨args,own,res,h,hk.1,hk.2⟩
theorem CallW.mx {P:Program} {lm:Nat->Option Blk} {nx:Nat} {K:Eff->Prop} {f:FuncId} {vs:List AV} {args:List Dat} {own:Bool} {d:Dat} (h:Fn P f args own [d]) (hk:(own && d.1.plain || d.1.flat)=true/\All2 (fun v d=>IsV (lmX lm) d v) vs args/\K (xEff nx (vs.flatMap AV.rows) own d)):CallW P lm nx K f vs:=.inr (.inl ⟨args,own,d,h,hk.1,hk.2.1,hk.2.2⟩)
theorem CallW.m {P:Program} {lm:Nat->Option Blk} {nx:Nat} {K:Eff->Prop} {f:FuncId} {v:AV} {k r:Int} {t:Ty} {x x':t.den} (h:FnM P f t x x' k r) (hk:MkV lm t x v/\K ⟨.sc (.int .i64 r),mcel t x' (cellsOf v),v.rows⟩):CallW P lm nx K f [v,.sc (.int .i64 k)]:=.inr (.inr (.inl ⟨t,x,x',k,r,v,h,rfl,hk.1,hk.2⟩))
theorem CallW.s {P:Program} {lm:Nat->Option Blk} {nx:Nat} {K:Eff->Prop} {f:FuncId} {vs:List AV} {args:List Dat} {i:Nat} (h:FnS P f args i) (hk:All2 (fun v d=>IsV (lmX lm) d v) vs args/\∃ v,vs[i]? = some v/\K ⟨v,[],vs.flatMap AV.rows⟩):CallW P lm nx K f vs:=.inr (.inr (.inr (.inl ⟨args,i,hk.2.choose,h,hk.1,hk.2.choose_spec.1,hk.2.choose_spec.2⟩)))
theorem CallW.t {P:Program} {lm:Nat->Option Blk} {nx:Nat} {K:Eff->Prop} {f:FuncId} {vs:List AV} {args:List Dat} {d:Dat} {ds:List Dat} (h:FnT P f args (d :: ds)) (hk:(d.1.plain && ds.all fun d=>d.1.flat)=true/\All2 (fun v d=>IsV (lmX lm) d v) vs args/\K ⟨.tup (oav nx d :: ds.map fun d=>av d.1 d.2),mineM (ocel nx d.1 d.2).2,vs.flatMap AV.rows⟩):CallW P lm nx K f vs:=.inr (.inr (.inr (.inr (.inl ⟨args,d,ds,h,hk.1,hk.2.1,hk.2.2⟩))))
theorem CallW.g {P:Program} {lm:Nat->Option Blk} {nx:Nat} {K:Eff->Prop} {f:FuncId} {vs:List AV} {args:List Dat} {e:TypeId} {t:Ty} {l:List t.den} (h:FnG P f args e t l) (hk:All2 (fun v d=>IsV (lmX lm) d v) vs args/\K ⟨.row nx 0,[(nx,.row e t 0 true l)],vs.flatMap AV.rows⟩):CallW P lm nx K f vs:=.inr (.inr (.inr (.inr (.inr (.inl ⟨args,e,t,l,h,hk.1,hk.2⟩)))))
theorem CallW.r {P:Program} {lm:Nat->Option Blk} {nx:Nat} {K:Eff->Prop} {f:FuncId} {vs:List AV} {xs:List Cst} {e:TypeId} {t:Ty} {l l':List t.den} {ret:Bool} {k ver:Nat} {o:Bool} (h:FnR P f xs e t l l' ret) (hk:vs=.row k ver :: xs.map (fun c=>.sc c.val)/\lm k=some (.row e t ver o l)/\K ⟨if ret then .row k (ver+1) else .tup [],[(k,.row e t (if ret then ver+1 else ver) true l')],[k]⟩):CallW P lm nx K f vs:=.inr (.inr (.inr (.inr (.inr (.inr ⟨xs,e,t,l,l',ret,k,ver,o,h,hk.1,hk.2.1,hk.2.2⟩)))))
theorem CallK.mk {P:Program} {lm:Nat->Option Blk} {K:Eff->Prop} {f:FuncId} {vs:List AV} {args:List Dat} {d:Dat} (h:Fn P f args false [d]) (hk:d.1.flat=true/\All2 (fun v d=>IsC lm d v) vs args/\K ⟨av d.1 d.2,[],vs.flatMap (rdK lm)⟩):CallK P lm K f vs:=⟨args,d,h,hk⟩
theorem CallD.mk {P:Program} {lm:Nat->Option Blk} {K:Eff->Prop} {f:FuncId} {A:Ty} {x:A.den} {vs:List AV} {d0:Dat} {d:Dat} (h:Fn P f (d0 :: capD A x) false [d]) (hk:d.1.flat=true/\All2 (fun v d=>IsV lm d v) vs [d0]/\K ⟨av d.1 d.2,[],vs.flatMap AV.rows⟩):CallD P lm K f A x vs:=⟨[d0],d,h,hk⟩
@[go_sem] theorem IsC_clb {lm:Nat->Option Blk} {d:Dat} {f:FuncId} {ks:List Nat}:IsC lm d (.clb f ks)=IsClo lm d.1 d.2 f ks:=(rfl)
@[go_sem] theorem IsC_sl {lm:Nat->Option Blk} {d:Dat} {t:Ty} {l:List t.den}:IsC lm d (.sl t l)=IsV lm d (.sl t l):=(rfl)
@[go_sem] theorem IsC_row {lm:Nat->Option Blk} {d:Dat} {k ver:Nat}:IsC lm d (.row k ver)=IsV lm d (.row k ver):=(rfl)
@[go_sem] theorem IsC_sc {lm:Nat->Option Blk} {d:Dat} {v:Value}:IsC lm d (.sc v)=IsV lm d (.sc v):=(rfl)
@[go_sem] theorem IsC_agg {lm:Nat->Option Blk} {d:Dat} {cs:List AV}:IsC lm d (.agg cs)=IsV lm d (.agg cs):=(rfl)
@[go_sem] theorem IsC_ref {lm:Nat->Option Blk} {d:Dat} {t:Ty} {x:t.den} {o:Nat}:IsC lm d (.ref t x o)=IsV lm d (.ref t x o):=(rfl)
@[go_sem] theorem SlcW_sl {lm:Nat->Option Blk} {K:Eff->Prop} {s t:Ty} {l:List s.den} {m:List t.den} {a b:Int}:SlcW lm K s l a b (.sl t m)=K ⟨.sl s ((l.take b.toNat).drop a.toNat),frzU lm (AV.sl t m).rows,(AV.sl t m).rows⟩:=(rfl)
theorem SlcW.keep {lm:Nat->Option Blk} {K:Eff->Prop} {s:Ty} {l:List s.den} {a b:Int} {k ver:Nat} (h:K ⟨.sl s ((l.take b.toNat).drop a.toNat),frzU lm [k],[k]⟩):SlcW lm K s l a b (.row k ver):=.inl h
theorem SlcW.cut {lm:Nat->Option Blk} {K:Eff->Prop} {s:Ty} {l:List s.den} {a b:Int} {k ver:Nat} {e:TypeId} {o:Bool} (h:a=0/\lm k=some (.row e s ver o l)/\K ⟨.row k (ver+1),[(k,.row e s (ver+1) s.flat (l.take b.toNat))],[k]⟩):SlcW lm K s l a b (.row k ver):=.inr ⟨h.1,e,o,h.2.1,h.2.2⟩
theorem QuoW.pos {K:Eff->Prop} {a b:Int} (h0:0<=a) (h1:0 < b) (h:K (.val (.sc (.int .i64 (a / b))))):QuoW K a b:=⟨_,.inl ⟨h0,h1,rfl⟩,h⟩
theorem RemW.pos {K:Eff->Prop} {a b:Int} (h0:0<=a) (h1:0 < b) (h:K (.val (.sc (.int .i64 (a % b))))):RemW K a b:=⟨_,.inl ⟨h0,h1,rfl⟩,h⟩
theorem FloW.mk {K:Eff->Prop} {op:BinOp} {x y:Nat} (r:Nat) (h:floatBits op .f64 x y=some r) (hk:K (.val (.sc (.float .f64 r)))):FloW K op x y:=⟨r,h,hk⟩
theorem FtiW.mk {K:Eff->Prop} {x:Nat} (n:Int) (h:floatToIntVal .f64 x .i64=some n) (hI:I64 n) (hk:K (.val (.sc (.int .i64 n)))):FtiW K x:=⟨n,h,hI,hk⟩
theorem fn_enter {P:Program} {T:TypeId->Option Ty} (hT:TabOK P T) (hmix:P.follows .mixedOrders=true) {f:FuncId} {fn:Func} {code:Code} {args:List Dat} {own:Bool} {res:List Dat} (hf:P.funcs[f]? = some fn) (hname:(fn.name == "runtime.NumGoroutine")=false) (hb:fn.body=some code) (n:Nat) (hn:fn.ntmps=n) (rs:List ResultVar) (hr:fn.results=rs.toArray) (hna:args.length<=n)
  (h:(∀ d ∈ args,Wf d.1 d.2)->AC P T n code (KR T rs own res) ⟨argTm 0 args,[]⟩):Fn P f args own res:=by
 subst hn
 refine fn_intro hT hmix hf hname hb hna fun hwf=>?_
 have:=h hwf
 have e:(KR T rs own res)=fun e σ=>match e with
   | .normal|.ret=>RetOK T σ own fn.results.toList res
   | _=>False:=by
  have hrl:fn.results.toList=rs:=by rw [hr]
  rw [hrl]; funext e σ; cases e<;>rfl
 rw [e] at this
 exact this
end
theorem look_hit {α:Type} (k:Nat) (v:α) (l:List (Nat × α)):look ((k,v) :: l) k=some v:=look_self k v l
theorem look_miss {α:Type} {k d:Nat} (v:α) (l:List (Nat × α)) (h:(d == k)=false):look ((k,v) :: l) d=look l d:=look_ne v l (by simpa using h)
attribute [go_sem] reduceIte reduceCtorEq Nat.reduceEqDiff Nat.reduceLT Nat.reduceLeDiff Nat.reduceAdd Nat.reduceBEq Nat.reduceMul Int.reduceToNat Int.reduceLE Int.reduceLT Int.reduceEq Int.reduceNeg
attribute [go_sem] IsClo exV aNilChk evPtrs aMakeClo aIndexArr aBuildArr aMakeMap aCall2 hasClb CapOK capD rdK boxRows Ty.plain Ex.zv
attribute [go_sem] RetT lmX Blk.toOd Blk.toMine mineM xEff IsM mcel mrow MkV Option.map_some Option.map_none aStep aMove aPick aBox aAlloc aLoad aStoreBox aStoreRow aFieldAddr aField aBin aNil Cst.val aUn aConv aExtract aBuild fillA aLen elemPtr aIndexAddr Blk.fz frzU ocel oav apartR callEff evs lmF aCall aBuildSlice aAppend aMakeSlice evo aSlice aMin aMax
 ev kst look_hit look_miss look_nil getC cel av cellsOf AV.ok AV.rows AV.data Blk.data gslot St.app Eff.val Eff.te Eff.skip Ty.isAgg Ty.size Ty.flat Ty.zero Ty.zc zcl argTm RetOK aRes IsV Is IsS OwnA OwnC OwnL ownV cellRows All2 LeC LeA LeV wkT wkB wkM ren isSl idx WkL rdC rdI rdB rdT rdU rdX rdV rdL rdS lget_same decide_true decide_false Int.toNat_natCast
def ni (l:List Int) (i:Nat):Int:=nth (t:=.int) l i
@[go_sem] theorem nth_int (l:List Int) (i:Nat):@nth .int l i=ni l i:=(rfl)
theorem ni_lt {l:List Int} {i:Nat} (h:i < l.length):ni l i=l[i]:=nth_lt (t:=.int) h
theorem ni_ge {l:List Int} {i:Nat} (h:l.length<=i):ni l i=0:=by rw [ni,nth,List.getD_eq_getElem?_getD,List.getElem?_eq_none h]; rfl
attribute [go_sem] exists_eq_left exists_eq_left' exists_eq' exists_eq and_imp beq_self_eq_true Int.toNat_zero List.length_append List.nodup_nil List.nodup_cons List.not_mem_nil not_false_eq_true List.mem_cons Option.getD_none Option.getD_some implies_true false_implies or_false or_true false_or true_or forall_eq List.cons.injEq AV.sc.injEq AV.sl.injEq Blk.box.injEq Value.int.injEq Value.bool.injEq Sigma.mk.injEq heq_eq_eq true_and and_true and_self false_and and_false if_true if_false List.length_cons List.length_nil List.take_succ_cons List.take_zero List.drop_succ_cons List.drop_zero List.cons_append List.nil_append List.getD_cons_zero List.getD_cons_succ List.map_cons List.map_nil List.all_cons List.all_nil List.flatMap_cons List.flatMap_nil List.toList_toArray forall_const Bool.not_true Bool.not_false Bool.false_eq_true Bool.and_true Bool.true_and Bool.or_false Bool.false_or Bool.or_true Bool.true_or Bool.and_false Bool.false_and List.length_replicate List.length_set ne_eq List.headD_cons Option.bind_some Option.some.injEq Option.isSome_some List.getElem?_cons_zero List.getElem?_cons_succ List.getElem?_toArray Nat.zero_add Option.none_or Option.some_or
end Go.Proofs.YtffdhjnbppagjaaGreat.DW

namespace Go.Proofs.YtffdhjnbppagjaaGreat.DW
open Go.RowKit
abbrev tInts:Ty:=.slice .int
abbrev tBig:Ty:=.prod .bool tInts
abbrev tRat:Ty:=.prod tBig tInts
abbrev tPoint:Ty:=.prod tRat tRat
abbrev tStep:Ty:=.prod .int tPoint
abbrev tVec:Ty:=.prod .int .int
abbrev tVecSS:Ty:=.slice (.slice tVec)
abbrev tScene:Ty:=.prod tVec (.prod tVec (.prod (.slice tVec) (.prod tVecSS (.slice tVec))))
abbrev tBox:Ty:=.prod tVec tVec
abbrev tSpace:Ty:=.prod .bool (.prod tBox tVecSS)
abbrev tSpace4:Ty:=.prod tSpace (.prod tSpace (.prod tSpace tSpace))
abbrev tSpaces:Ty:=.prod tScene tSpace4
def tyOf:TypeId->Option Ty
 | 3=>some .int
 | 4=>some .bool
 | 9=>some .str
 | 28=>some tInts
 | 37=>some tBig
 | 39=>some tRat
 | 187=>some (.slice tRat)
 | 48=>some tPoint
 | 104=>some tStep
 | 67=>some (.slice tStep)
 | 195=>some (.slice tPoint)
 | 65=>some tStep
 | 41=>some tVec
 | 42=>some (.slice tVec)
 | 30=>some tBig
 | 32=>some tRat
 | 34=>some tPoint
 | 140=>some tStep
 | 59=>some (.slice tStep)
 | 58=>some tStep
 | 23=>some tVec
 | 24=>some (.slice tVec)
 | 43=>some tVecSS
 | 25=>some tVecSS
 | 45=>some tScene
 | 27=>some tScene
 | 114=>some tBox
 | 128=>some tSpace
 | 205=>some tSpace4
 | 207=>some tSpaces
 | _=>none
theorem mixes:Tryz.prog.follows .mixedOrders=true:=by kernel_rfl
theorem tabOK:TabOK Tryz.prog tyOf:=by
 intro ty t h
 unfold tyOf at h
 split at h
 all_goals first|cases h; done|(injection h with h; subst h; exact tyOK (by kernel_rfl) (by kernel_rfl))
attribute [go_sem] tyOf
attribute [go_sem] Tryz.underlying3
attribute [go_sem] Tryz.underlying4
attribute [go_sem] Tryz.underlying9
attribute [go_sem] Tryz.underlying5
attribute [go_sem] Tryz.underlying28
attribute [go_sem] Tryz.underlying301
attribute [go_sem] Tryz.underlying37
attribute [go_sem] Tryz.underlying39
attribute [go_sem] Tryz.underlying187
attribute [go_sem] Tryz.underlying48
attribute [go_sem] Tryz.underlying195
attribute [go_sem] Tryz.underlying104
attribute [go_sem] Tryz.underlying67
attribute [go_sem] Tryz.underlying65
attribute [go_sem] Tryz.underlying41
attribute [go_sem] Tryz.underlying42
attribute [go_sem] Tryz.underlying30
attribute [go_sem] Tryz.underlying32
attribute [go_sem] Tryz.underlying34
attribute [go_sem] Tryz.underlying140
attribute [go_sem] Tryz.underlying59
attribute [go_sem] Tryz.underlying58
attribute [go_sem] Tryz.underlying23
attribute [go_sem] Tryz.underlying24
attribute [go_sem] Tryz.underlying43
attribute [go_sem] Tryz.underlying25
attribute [go_sem] Tryz.underlying45
attribute [go_sem] Tryz.underlying27
attribute [go_sem] Tryz.underlying114
attribute [go_sem] Tryz.underlying128
attribute [go_sem] Tryz.underlying205
attribute [go_sem] Tryz.underlying207
@[go_sem] theorem bts_bool:bts Tryz.prog 4=some 1:=by kernel_rfl
@[go_sem] theorem bts_Point:bts Tryz.prog 48=some 112:=by kernel_rfl
@[go_sem] theorem bts_Step:bts Tryz.prog 104=some 120:=by kernel_rfl
@[go_sem] theorem bts_Vec:bts Tryz.prog 41=some 16:=by kernel_rfl
@[go_sem] theorem bts_int:bts Tryz.prog 3=some 8:=by kernel_rfl
@[go_sem] theorem bts_Rat:bts Tryz.prog 39=some 56:=by kernel_rfl
end Go.Proofs.YtffdhjnbppagjaaGreat.DW

namespace Go.Proofs.YtffdhjnbppagjaaGreat.DW
open Go.RowKit
abbrev Arg (w:World) (v:Value) (d:Dat):Prop:=∃ fp,DRep w v d fp
theorem Arg.int {w:World} {n:Int} (h:I64 n):Arg w (.int .i64 n) ⟨.int,n⟩:=⟨[],[_],.inr ⟨rfl,rfl⟩,rfl,rfl,h⟩
theorem Arg.bool {w:World} {b:Bool}:Arg w (.bool b) ⟨.bool,b⟩:=⟨[],[_],.inr ⟨rfl,rfl⟩,rfl,rfl⟩
theorem Arg.str {w:World} {s:ByteArray} (h:s.size<=maxLen):Arg w (.string s) ⟨.str,s⟩:=⟨[],[_],.inr ⟨rfl,rfl⟩,rfl,rfl,h⟩
theorem Arg.sl {w:World} {v:Value} {a:Ty} {l:List a.den} (h:Has (Rp.slice a.rp a.pos) w [v] l):Arg w v ⟨.slice a,l⟩:=by
 obtain ⟨fp,h⟩:=h
 exact ⟨fp,[v],.inr ⟨rfl,rfl⟩,h⟩
theorem Arg.agg {w:World} {cs:List Value} {t:Ty} {x:t.den} (ht:t.isAgg=true) (h:Has t.rp w cs x):Arg w (.agg cs.toArray) ⟨t,x⟩:=by
 obtain ⟨fp,h⟩:=h
 exact ⟨fp,cs,.inl ⟨ht,rfl⟩,h⟩
section
variable {P:Program} {f:FuncId} {args:List Dat} {own:Bool} {t:Ty} {x:t.den} {w:World} {vs:List Value}
theorem Fn.go (h:Fn P f args own [⟨t,x⟩]) (ha:All2 (Arg w) vs args):Calls P f vs.toArray w fun e w'=>Below w.heap.size w w'/\∃ v,e=.returned v/\∃ fp,DRep w' v ⟨t,x⟩ fp/\(own=true->OwnFp w.heap.size w' fp):=by
 refine (h.2 w vs (fun _=>True) (ha.mono fun v d _ ⟨fp,h⟩=>⟨fp,h,fun _ _=>trivial⟩)).mono fun e w' ⟨hb,v,he,hr⟩=>⟨hb,v,he,?_⟩
 obtain ⟨fp,h1,h2,_⟩:=hr
 exact ⟨fp,h1,h2⟩
theorem Fn.bool {b:Bool} (h:Fn P f args own [⟨.bool,b⟩]) (ha:All2 (Arg w) vs args):Calls P f vs.toArray w (Post (fun v w'=>v=.bool b/\Below w.heap.size w w')):=by
 refine (h.go ha).mono fun e w' ⟨hb,v,he,fp,⟨cs,hp,hr⟩,_⟩=>⟨v,he,?_,hb⟩
 rcases hp with ⟨h,_⟩|⟨_,rfl⟩
 ·cases h
 ·exact List.cons.inj hr.1 |>.1
theorem Fn.int {n:Int} (h:Fn P f args own [⟨.int,n⟩]) (ha:All2 (Arg w) vs args):Calls P f vs.toArray w (Post (fun v w'=>v=.int .i64 n/\Below w.heap.size w w')):=by
 refine (h.go ha).mono fun e w' ⟨hb,v,he,fp,⟨cs,hp,hr⟩,_⟩=>⟨v,he,?_,hb⟩
 rcases hp with ⟨h,_⟩|⟨_,rfl⟩
 ·cases h
 ·exact List.cons.inj hr.1 |>.1
structure HasR {α:Type} (A:Rp α) (w:World) (cs:List Value) (a:α):Prop where
 has:Has A w cs a
end
end Go.Proofs.YtffdhjnbppagjaaGreat.DW

namespace Go.Proofs.YtffdhjnbppagjaaGreat.DW
open Go.RowKit
section
variable {P:Program} {f:FuncId} {fn:Func} {code:Code}
theorem enters (hf:P.funcs[f]? = some fn) (hname:(fn.name == "runtime.NumGoroutine")=false) (hb:fn.body=some code):∀ vs w,(callFunc f vs).run P w=.ok (.enter f vs) w:=by
 intro vs w
 have h1:fn.name ≠ "runtime.NumGoroutine":=by simpa using hname
 simp [callFunc,hf,h1,hb]
theorem drep_int {w:World} {v:Value} {n:Int} {fp:List Nat} (h:DRep w v ⟨.int,n⟩ fp):v=.int .i64 n:=by
 obtain ⟨cs,hp,hr⟩:=h
 rcases hp with ⟨h,_⟩|⟨_,rfl⟩
 ·cases h
 ·exact (List.cons.inj hr.1).1
theorem dres_int {own:Bool} {base:Nat} {S:Nat->Prop} {w:World} {n:Int} (h:I64 n):DRes own base S w (.int .i64 n) ⟨.int,n⟩:=⟨[],⟨[_],.inr ⟨rfl,rfl⟩,rfl,rfl,h⟩,fun _=>ownFp_nil _ _,fun b hb=>by cases hb⟩
theorem dres_bool {own:Bool} {base:Nat} {S:Nat->Prop} {w:World} {n:Bool}:DRes own base S w (.bool n) ⟨.bool,n⟩:=⟨[],⟨[_],.inr ⟨rfl,rfl⟩,rfl,rfl⟩,fun _=>ownFp_nil _ _,fun b hb=>by cases hb⟩
variable (en:∀ vs w,(callFunc f vs).run P w=.ok (.enter f vs) w)
include en
theorem Fn.ofInt {t:Ty} {x:t.den} {n r:Int} (hI:I64 r) (h:∀ w v cs,pk t v cs->Has t.rp w cs x->Calls P f #[v,.int .i64 n] w (Post fun v w'=>v=.int .i64 r/\Below w.heap.size w w')):Fn P f [⟨t,x⟩,⟨.int,n⟩] false [⟨.int,r⟩]:=by
 refine ⟨en,fun w vs S ha=>?_⟩
 match vs,ha with
 | [v1,v2],⟨⟨fp1,⟨cs,hp,hr⟩,_⟩,⟨fp2,h2,_⟩,_⟩ =>
  obtain rfl:=drep_int h2
  refine (h w v1 cs hp ⟨fp1,hr⟩).mono fun e w' ⟨v,he,hv,hb⟩=>⟨hb,v,he,?_⟩
  subst hv
  exact dres_int hI
 | [],ha=>exact ha.elim
 | [_],ha=>exact ha.2.elim
 | _ :: _ :: _ :: _,ha=>exact ha.2.2.elim
theorem Fn.ofEq {t:Ty} {x y:t.den} {r:Bool} (h:∀ w v cs u ds,pk t v cs->Has t.rp w cs x->pk t u ds->Has t.rp w ds y->Calls P f #[v,u] w (Post fun v w'=>v=.bool r/\Below w.heap.size w w')):Fn P f [⟨t,x⟩,⟨t,y⟩] false [⟨.bool,r⟩]:=by
 refine ⟨en,fun w vs S ha=>?_⟩
 match vs,ha with
 | [v1,v2],⟨⟨fp1,⟨cs,hp,hr⟩,_⟩,⟨fp2,⟨ds,hp2,hr2⟩,_⟩,_⟩ =>
  refine (h w v1 cs v2 ds hp ⟨fp1,hr⟩ hp2 ⟨fp2,hr2⟩).mono fun e w' ⟨v,he,hv,hb⟩=>⟨hb,v,he,?_⟩
  subst hv
  exact dres_bool
 | [],ha=>exact ha.elim
 | [_],ha=>exact ha.2.elim
 | _ :: _ :: _ :: _,ha=>exact ha.2.2.elim
theorem Fn.ofOwn {t t':Ty} {x:t.den} {y:t'.den} (h:∀ w v cs,pk t v cs->Has t.rp w cs x->Calls P f #[v] w (Post fun v w'=>(∃ cs',pk t' v cs'/\Own t'.rp w.heap.size w' cs' y)/\Below w.heap.size w w')):Fn P f [⟨t,x⟩] true [⟨t',y⟩]:=by
 refine ⟨en,fun w vs S ha=>?_⟩
 match vs,ha with
 | [v1],⟨⟨fp1,⟨cs,hp,hr⟩,_⟩,_⟩ =>
  refine (h w v1 cs hp ⟨fp1,hr⟩).mono fun e w' ⟨v,he,⟨cs',hp',fp,hr',ho⟩,hb⟩=>⟨hb,v,he,?_⟩
  exact ⟨fp,⟨cs',hp',hr'⟩,fun _=>ho,fun b hb=>.inr (ho.2 b hb).1⟩
 | [],ha=>exact ha.elim
 | _ :: _ :: _,ha=>exact ha.2.elim
theorem FnM.of {t:Ty} {x x':t.den} {k r:Int} (hI:I64 r) (h:∀ w v cs fp,pk t v cs->t.rp.rep w cs x fp->fp.Nodup->(∀ b ∈ fp,Free w b)->Calls P f #[v,.int .i64 k] w (Post (MarkPost t.rp cs x' fp r w))):FnM P f t x x' k r:=⟨en,hI,h⟩
end
theorem pk_agg {t:Ty} {v:Value} {cs:List Value} (ht:t.isAgg=true) (h:pk t v cs):v=.agg cs.toArray:=by
 rcases h with ⟨_,h⟩|⟨h,_⟩
 ·exact h
 ·rw [ht] at h; cases h
theorem pk_one {t:Ty} {v:Value} {cs:List Value} (ht:t.isAgg=false) (h:pk t v cs):cs=[v]:=by
 rcases h with ⟨h,_⟩|⟨_,h⟩
 ·rw [ht] at h; cases h
 ·exact h
theorem szr_I64 {n:Int} {t:Nat} (h0:0<=n) (h1:n<=1048576):I64 (szr n t):=by
 have:=szr_lo n t h0
 constructor<;>omega
theorem small_I64 {n:Int} (h0:0<=n) (h1:n<=1073741824):I64 n:=by constructor<;>omega
@[go_sem] theorem ex_row {i ver:Nat} {p:Nat->Prop}:(∃ k,AV.row i ver=AV.row k ver/\p k)=p i:=propext ⟨fun ⟨k,e,h⟩=>by injection e with e; exact e ▸ h,fun h=>⟨i,rfl,h⟩⟩
@[go_sem] theorem eqb_self {α:Type} (a:α):eqb a a=true:=eqb_true rfl
end Go.Proofs.YtffdhjnbppagjaaGreat.DW

namespace Go.Proofs.YtffdhjnbppagjaaGreat
open Go.RowKit
set_option maxHeartbeats 400000 in
theorem szIntS_any (v:Value) (l:List Int) (left:Int) (w:World) (hl:Has RIntS w [v] l) (h0:0<=left) (h1:left<=1048576) :
  Calls Tryz.prog 115 #[v,.int .i64 left] w (Post (SzPost left l.length w)):=by
 obtain ⟨ad,c,rfl,hc,hm⟩:=hl.len_slice
 unfold maxLen at hm
 go_enter Tryz.func115,Tryz.ntmps115
 go_wp2
 ·go_ret
  exact ⟨_,rfl,congrArg (Value.int .i64) (szr_lt (by omega)),Below.refl _ _⟩
 ·go_ret
  exact ⟨_,rfl,congrArg (Value.int .i64) (szr_ge (by omega)),Below.refl _ _⟩
set_option maxHeartbeats 400000 in
theorem szBigInt_any (c0 c1:Value) (x:DBigInt) (left:Int) (w:World) (hx:Has RBigInt w [c0,c1] x) (h0:0<=left) (h1:left<=1048576) :
  Calls Tryz.prog 145 #[.agg #[c0,c1],.int .i64 left] w (Post (SzPost left (tBigInt x) w)):=by
 obtain ⟨hx0,hx1⟩:=hx.split [c0] [c1] rfl
 have HX1:=Lib.hid hx1
 clear hx hx0 hx1
 go_enter Tryz.func145,Tryz.ntmps145
 have hb0:=(Below.refl w.heap.size w).alloc (Nat.le_refl _) (Obj.cells #[c0,c1] 30)
 go_wp2_with fail
 refine (szIntS_any _ _ _ _ (HX1.out.below hb0) h0 h1).mono ?_
 rintro e w1 ⟨v,rfl,rfl,hbx1⟩
 have hr1:=szr_lo left (x.2.length) h0
 have hb1:=Below.up hb0 hbx1 hb0.size
 go_wp2
 ·go_ret
  exact ⟨_,rfl,congrArg (Value.int .i64) (szr_fail (by assumption) (by unfold tBigInt; omega)),hb1⟩
 ·go_ret
  exact ⟨_,rfl,rfl,hb1⟩
set_option maxHeartbeats 400000 in
theorem szRat_any (c0 c1 c2:Value) (x:DRat) (left:Int) (w:World) (hx:Has RRat w [c0,c1,c2] x) (h0:0<=left) (h1:left<=1048576) :
  Calls Tryz.prog 65 #[.agg #[c0,c1,c2],.int .i64 left] w (Post (SzPost left (tRat x) w)):=by
 obtain ⟨hx0,hx1⟩:=hx.split [c0,c1] [c2] rfl
 have HX0:=Lib.hid hx0
 have HX1:=Lib.hid hx1
 clear hx hx0 hx1
 go_enter Tryz.func65,Tryz.ntmps65
 have hb0:=(Below.refl w.heap.size w).alloc (Nat.le_refl _) (Obj.cells #[c0,c1,c2] 32)
 go_wp2_with fail
 refine (szBigInt_any _ _ _ _ _ (HX0.out.below hb0) h0 h1).mono ?_
 rintro e w1 ⟨v,rfl,rfl,hbx1⟩
 have hr1:=szr_lo left (tBigInt x.1) h0
 have hb1:=Below.up hb0 hbx1 hb0.size
 obtain ⟨hc1,hf1⟩:=bcell hbx1
 go_wp2_with fail
 ·go_ret
  exact ⟨_,rfl,congrArg (Value.int .i64) (szr_fail (by assumption) (by unfold tRat; omega)),hb1⟩
 ·have hge1:0<=szr left (tBigInt x.1):=by assumption
  refine (szIntS_any _ _ _ _ (HX1.out.below hb1) hge1 (by omega)).mono ?_
  rintro e w2 ⟨v,rfl,rfl,hbx2⟩
  rw [szr_add _ _ _ hge1]
  have hr2:=szr_lo left (tBigInt x.1+x.2.length) h0
  have hb2:=Below.up hb1 hbx2 hb1.size
  go_wp2
  ·go_ret
   exact ⟨_,rfl,congrArg (Value.int .i64) (szr_fail (by assumption) (by unfold tRat; omega)),hb2⟩
  ·go_ret
   exact ⟨_,rfl,rfl,hb2⟩
set_option maxHeartbeats 400000 in
theorem szPoint_any (c0 c1 c2 c3 c4 c5:Value) (x:DPoint) (left:Int) (w:World) (hx:Has RPoint w [c0,c1,c2,c3,c4,c5] x) (h0:0<=left) (h1:left<=1048576) :
  Calls Tryz.prog 12 #[.agg #[c0,c1,c2,c3,c4,c5],.int .i64 left] w (Post (SzPost left (tPoint x) w)):=by
 obtain ⟨hx0,hx1⟩:=hx.split [c0,c1,c2] [c3,c4,c5] rfl
 have HX0:=Lib.hid hx0
 have HX1:=Lib.hid hx1
 clear hx hx0 hx1
 go_enter Tryz.func12,Tryz.ntmps12
 have hb0:=(Below.refl w.heap.size w).alloc (Nat.le_refl _) (Obj.cells #[c0,c1,c2,c3,c4,c5] 34)
 go_wp2_with fail
 refine (szRat_any _ _ _ _ _ _ (HX0.out.below hb0) h0 h1).mono ?_
 rintro e w1 ⟨v,rfl,rfl,hbx1⟩
 have hr1:=szr_lo left (tRat x.1) h0
 have hb1:=Below.up hb0 hbx1 hb0.size
 obtain ⟨hc1,hf1⟩:=bcell hbx1
 go_wp2_with fail
 ·go_ret
  exact ⟨_,rfl,congrArg (Value.int .i64) (szr_fail (by assumption) (by unfold tPoint; omega)),hb1⟩
 ·have hge1:0<=szr left (tRat x.1):=by assumption
  refine (szRat_any _ _ _ _ _ _ (HX1.out.below hb1) hge1 (by omega)).mono ?_
  rintro e w2 ⟨v,rfl,rfl,hbx2⟩
  rw [szr_add _ _ _ hge1]
  have hr2:=szr_lo left (tRat x.1+tRat x.2) h0
  have hb2:=Below.up hb1 hbx2 hb1.size
  go_wp2
  ·go_ret
   exact ⟨_,rfl,congrArg (Value.int .i64) (szr_fail (by assumption) (by unfold tPoint; omega)),hb2⟩
  ·go_ret
   exact ⟨_,rfl,rfl,hb2⟩
set_option maxHeartbeats 400000 in
theorem szPlacement_any (c0 c1 c2 c3 c4 c5 c6:Value) (x:DPlacement) (left:Int) (w:World) (hx:Has RPlacement w [c0,c1,c2,c3,c4,c5,c6] x) (h0:0<=left) (h1:left<=1048576) :
  Calls Tryz.prog 24 #[.agg #[c0,c1,c2,c3,c4,c5,c6],.int .i64 left] w (Post (SzPost left (tPlacement x) w)):=by
 obtain ⟨hx0,hx1⟩:=hx.split [c0] [c1,c2,c3,c4,c5,c6] rfl
 have HX1:=Lib.hid hx1
 clear hx hx0 hx1
 go_enter Tryz.func24,Tryz.ntmps24
 have hb0:=(Below.refl w.heap.size w).alloc (Nat.le_refl _) (Obj.cells #[c0,c1,c2,c3,c4,c5,c6] 58)
 go_wp2_with fail
 refine (szPoint_any _ _ _ _ _ _ _ _ _ (HX1.out.below hb0) h0 h1).mono ?_
 rintro e w1 ⟨v,rfl,rfl,hbx1⟩
 have hr1:=szr_lo left (tPoint x.2) h0
 have hb1:=Below.up hb0 hbx1 hb0.size
 go_wp2
 ·go_ret
  exact ⟨_,rfl,congrArg (Value.int .i64) (szr_fail (by assumption) (by unfold tPlacement; omega)),hb1⟩
 ·go_ret
  exact ⟨_,rfl,rfl,hb1⟩
set_option maxHeartbeats 400000 in
theorem szStep_any (c0 c1 c2 c3 c4 c5 c6:Value) (x:DStep) (left:Int) (w:World) (hx:Has RStep w [c0,c1,c2,c3,c4,c5,c6] x) (h0:0<=left) (h1:left<=1048576) :
  Calls Tryz.prog 92 #[.agg #[c0,c1,c2,c3,c4,c5,c6],.int .i64 left] w (Post (SzPost left (tStep x) w)):=by
 obtain ⟨hx0,hx1⟩:=hx.split [c0] [c1,c2,c3,c4,c5,c6] rfl
 have HX1:=Lib.hid hx1
 clear hx hx0 hx1
 go_enter Tryz.func92,Tryz.ntmps92
 have hb0:=(Below.refl w.heap.size w).alloc (Nat.le_refl _) (Obj.cells #[c0,c1,c2,c3,c4,c5,c6] 140)
 go_wp2_with fail
 refine (szPoint_any _ _ _ _ _ _ _ _ _ (HX1.out.below hb0) h0 h1).mono ?_
 rintro e w1 ⟨v,rfl,rfl,hbx1⟩
 have hr1:=szr_lo left (tPoint x.2) h0
 have hb1:=Below.up hb0 hbx1 hb0.size
 go_wp2
 ·go_ret
  exact ⟨_,rfl,congrArg (Value.int .i64) (szr_fail (by assumption) (by unfold tStep; omega)),hb1⟩
 ·go_ret
  exact ⟨_,rfl,rfl,hb1⟩
set_option maxHeartbeats 400000 in
theorem szStepS_any (v:Value) (l:DStepS) (left:Int) (w:World) (hl:Has RStepS w [v] l) (h0:0<=left) (h1:left<=1048576) :
  Calls Tryz.prog 25 #[v,.int .i64 left] w (Post (SzPost left (l.length+tStepS l) w)):=by
 obtain ⟨ad,c,rfl,hc,hm,hg⟩:=hl.elems
 unfold maxLen at hm
 have HG:=Lib.hid hg; clear hg hl
 by_cases hlt:left - l.length < 0
 ·go_enter Tryz.func25,Tryz.ntmps25
  go_wp2
  go_ret
  exact ⟨_,rfl,congrArg (Value.int .i64) (szr_lt (by omega)),Below.refl _ _⟩
 ·go_enter Tryz.func25,Tryz.ntmps25
  go_wp2
  go_loopw [1,5] (fun n i wr=>∃ k:Nat,k<=l.length/\i=.int .i64 k/\0<=szr left (l.length+tStepS (l.take k))/\n=.int .i64 (szr left (l.length+tStepS (l.take k)))/\Below w.heap.size w wr) (fun _ i _=>l.length - (intOf i).toNat)
  case atStart=>exact ⟨0,Nat.zero_le _,rfl,by simp [tStepS,szr]; rw [if_pos (by omega)]; omega,congrArg (Value.int .i64) (by simp [tStepS]; exact szr_ge (by omega)),Below.refl _ _⟩
  case round =>
   obtain ⟨k,hk,rfl,hle,rfl,hbw⟩:=hrel
   have hr0:=szr_lo left (l.length+tStepS (l.take k)) h0
   by_cases hkl:k < l.length
   ·obtain ⟨b,off,cs,rfl,hbl,hx,hcs⟩:=HG.out k hkl
    obtain ⟨c0,c1,c2,c3,c4,c5,c6,rfl⟩:=list7 hx.len
    have HX:=Lib.hid hx
    have hts:tStepS (l.take k)+tStep l[k]=tStepS (l.take (k+1)):=by rw [List.take_succ_eq_append_getElem hkl,tStepS_snoc]
    have g0:wr.cell? ⟨b,off+k * 7,none⟩=some c0:=(hbw.cell (p:=⟨b,_,none⟩) hbl).trans (hcs 0 _ rfl)
    have g1:wr.cell? ⟨b,off+k * 7+1,none⟩=some c1:=(hbw.cell (p:=⟨b,_,none⟩) hbl).trans (hcs 1 _ rfl)
    have g2:wr.cell? ⟨b,off+k * 7+2,none⟩=some c2:=(hbw.cell (p:=⟨b,_,none⟩) hbl).trans (hcs 2 _ rfl)
    have g3:wr.cell? ⟨b,off+k * 7+3,none⟩=some c3:=(hbw.cell (p:=⟨b,_,none⟩) hbl).trans (hcs 3 _ rfl)
    have g4:wr.cell? ⟨b,off+k * 7+4,none⟩=some c4:=(hbw.cell (p:=⟨b,_,none⟩) hbl).trans (hcs 4 _ rfl)
    have g5:wr.cell? ⟨b,off+k * 7+5,none⟩=some c5:=(hbw.cell (p:=⟨b,_,none⟩) hbl).trans (hcs 5 _ rfl)
    have g6:wr.cell? ⟨b,off+k * 7+6,none⟩=some c6:=(hbw.cell (p:=⟨b,_,none⟩) hbl).trans (hcs 6 _ rfl)
    have HTS:=Lib.hid hts
    clear hcs hx hts
    go_wp2_with fail
    refine (szStep_any _ _ _ _ _ _ _ _ _ _ (HX.out.below hbw) hle (by omega)).mono ?_
    rintro e w1 ⟨v,rfl,rfl,hbx⟩
    rw [szr_add _ _ _ hle,Nat.add_assoc,HTS.out]
    have hr:=szr_lo left (l.length+tStepS (l.take (k+1))) h0
    have hb1:=Below.up hbw hbx hbw.size
    go_wp2
    ·go_ret
     exact ⟨_,rfl,congrArg (Value.int .i64) (szr_fail (by assumption) (Nat.add_le_add_left (tStepS_take l (k+1)) _)),hb1⟩
    ·go_roundw
     case rel=>exact ⟨k+1,by omega,by go_num,by assumption,rfl,hb1⟩
     case measure=>simp [intOf]; omega
   ·obtain rfl:k=l.length:=by omega
    rw [List.take_length]
    go_wp2
    go_ret
    exact ⟨_,rfl,rfl,hbw⟩
end Go.Proofs.YtffdhjnbppagjaaGreat

namespace Go.Proofs.YtffdhjnbppagjaaGreat
open Go.RowKit
theorem infoint:(Tryz.prog.info? 3).map (fun i=>(i.zero,i.size,i.bytes))=some (some (.int .i64 0),1,8):=by kernel_rfl
set_option maxRecDepth 100000 in
set_option maxHeartbeats 400000 in
theorem toIntS_any (v:Value) (l:DIntS) (w:World) (hl:Has RIntS w [v] l) (hs:l.length<=1048576) :
  Calls Tryz.prog 119 #[v] w (Post (Own1Post RIntS l w)):=by
 obtain ⟨ad,c,rfl,hc,hm,hg⟩:=hl.elems
 unfold maxLen at hm
 have HG:=Lib.hid hg; clear hg hl
 have hln:l.length<=1048576:=by omega
 obtain ⟨i0,hi,hz0,hz1,hz2⟩:=info_parts infoint
 go_enter Tryz.func119,Tryz.ntmps119
 go_wp2_with (at_make; refine wpList_make_full _ rfl _ _ 28 rfl w.heap.size 3 i0 _ 1 Tryz.underlying28 hi hz0 hz1 _ _ _ _ l.length rfl rfl rfl rfl (by rw [hz2]; omega) (by unfold maxLen; omega) (Nat.le_refl _) ?_)
 intro w1 hown hgrow
 have hb0:Below w.heap.size w w1:=(Below.refl _ _).grown hgrow (Nat.le_refl _) (by simp)
 have HM0:=Lib.hid (Made.start (A:=Rp.int) hown); clear hown hgrow hi hz0 hz1 hz2
 go_wp2
 go_loopw [4] (fun i wr=>∃ k:Nat,k<=l.length/\i=.int .i64 k/\Made Rp.int wr w.heap.size l.length 3 (l.take k)/\Below w.heap.size w wr) (fun i _=>l.length - (intOf i).toNat)
 case atStart=>exact ⟨0,Nat.zero_le _,rfl,HM0.out,hb0⟩
 case round =>
  obtain ⟨k,hk,rfl,hM,hbw⟩:=hrel
  have HM:=Lib.hid hM; clear hM
  by_cases hkl:k < l.length
  rotate_left
  ·obtain rfl:k=l.length:=by omega
   go_wp2
   go_ret
   have h:=HM.out
   rw [List.take_length] at h
   exact ⟨_,rfl,h.own rfl (by unfold maxLen; omega) (Nat.le_refl _),hbw⟩
  have hgl:w.heap.size < wr.heap.size:=HM.out.lt
  obtain ⟨b,off,cs,rfl,hbl,hx,hcs⟩:=HG.out k hkl
  obtain ⟨c0,rfl⟩:=list1 hx.len
  have hI:=hx.int.2
  obtain rfl:=hx.int.1
  have g0:wr.cell? ⟨b,off+k,none⟩=some (.int .i64 l[k]):=(hbw.cell (p:=⟨b,_,none⟩) hbl).trans (by simpa [Rp.int] using hcs 0 _ rfl)
  obtain ⟨y0,hy0⟩:=HM.out.cell k (by simp [Rp.int]; omega)
  have hfz:=HM.out.frozen
  have HI:=Lib.hid hI
  clear hcs hx hI
  go_wp2
  go_roundw
  case rel =>
   have hst:=HM.out.step (Below.refl _ _) (Own.int wr.heap.size wr HI.out) (by rw [List.length_take]; omega)
   rw [<-List.take_succ_eq_append_getElem hkl,List.length_take,Nat.min_eq_left hk] at hst
   exact ⟨k+1,by omega,by go_num,by simpa [Rp.int,putCells] using hst,hbw.setCell (p:=⟨w.heap.size,k,none⟩) (Nat.le_refl _) _⟩
  case measure=>simp [intOf]; omega
set_option maxRecDepth 100000 in
set_option maxHeartbeats 400000 in
theorem toBigInt_any (c0 c1:Value) (x:DBigInt) (w:World) (hx:Has RBigInt w [c0,c1] x) (hs:tBigInt x<=1048576) :
  Calls Tryz.prog 163 #[.agg #[c0,c1]] w (Post (OwnPost RBigInt x w)):=by
 obtain ⟨hx0,hx1⟩:=hx.split [c0] [c1] rfl
 obtain rfl:=hx0.bool
 have HX1:=Lib.hid hx1
 clear hx hx0 hx1
 have HS:=Lib.hid hs; clear hs
 go_enter Tryz.func163,Tryz.ntmps163
 go_wp2_with fail
 refine (toIntS_any _ _ _ (HX1.out.below ((((Below.refl w.heap.size w).alloc (Nat.le_refl _) _).alloc (by simp<;>omega) _).alloc (by simp<;>omega) _)) (by have:=HS.out; unfold tBigInt at this; omega)).mono ?_
 rintro e w1 ⟨v1,rfl,ho1,hbx1⟩
 obtain ⟨ad1,cap1,rfl,_,_⟩:=ho1.has.len_slice
 simp only [World.size_alloc] at ho1
 have HO1_1:=Lib.hid ho1.inn; clear ho1
 have hb1:=Below.up ((((Below.refl w.heap.size w).alloc (Nat.le_refl _) _).alloc (by simp<;>omega) _).alloc (by simp<;>omega) _) hbx1 (by simp<;>omega)
 have hz1:=hbx1.size
 simp at hz1
 have q1_0:w.heap.size < w1.heap.size:=by omega
 have q1_1:w.heap.size+1 < w1.heap.size:=by omega
 have q1_2:w.heap.size+1+1 < w1.heap.size:=by omega
 obtain ⟨hc1,hf1⟩:=bcell hbx1
 go_wp2
 refine bodyPost_ret (v:=.agg #[(Value.bool x.1),(Value.slice ad1 (x.2).length cap1)]) (by simp [results,Tryz.results163,go_sem,hc1]) rfl ⟨_,rfl,⟨[(Value.bool x.1),(Value.slice ad1 (x.2).length cap1)],rfl,?_⟩,?_⟩
 ·have G1:=(((HO1_1.out.setCell (p:=⟨w.heap.size+1+1,1,none⟩) (.inl (by simp<;>omega)) (Value.slice ad1 (x.2).length cap1)).setCell (p:=⟨w.heap.size+1,0,none⟩) (.inl (by simp<;>omega)) (Value.bool x.1)).setCell (p:=⟨w.heap.size+1,1,none⟩) (.inl (by simp<;>omega)) (Value.slice ad1 (x.2).length cap1))
  exact OwnIn.own (OwnIn.pair (OwnIn.bool (w.heap.size+1+1+1) _ x.1) G1 (by omega) (by omega) (by omega)) (by omega)
 ·exact (((hb1.setCell (p:=⟨w.heap.size+1+1,1,none⟩) (by simp<;>omega) (Value.slice ad1 (x.2).length cap1)).setCell (p:=⟨w.heap.size+1,0,none⟩) (by simp<;>omega) (Value.bool x.1)).setCell (p:=⟨w.heap.size+1,1,none⟩) (by simp<;>omega) (Value.slice ad1 (x.2).length cap1))
set_option maxRecDepth 100000 in
set_option maxHeartbeats 400000 in
theorem toRat_any (c0 c1 c2:Value) (x:DRat) (w:World) (hx:Has RRat w [c0,c1,c2] x) (hs:tRat x<=1048576) :
  Calls Tryz.prog 78 #[.agg #[c0,c1,c2]] w (Post (OwnPost RRat x w)):=by
 obtain ⟨hx0,hx1⟩:=hx.split [c0,c1] [c2] rfl
 have HX0:=Lib.hid hx0
 have HX1:=Lib.hid hx1
 clear hx hx0 hx1
 have HS:=Lib.hid hs; clear hs
 go_enter Tryz.func78,Tryz.ntmps78
 go_wp2_with fail
 refine (toBigInt_any _ _ _ _ (HX0.out.below ((((Below.refl w.heap.size w).alloc (Nat.le_refl _) _).alloc (by simp<;>omega) _).alloc (by simp<;>omega) _)) (by have:=HS.out; unfold tRat at this; omega)).mono ?_
 rintro e w1 ⟨v1,rfl,⟨cs1,rfl,ho1⟩,hbx1⟩
 obtain ⟨v1_0,v1_1,rfl⟩:=list2 ho1.has.len
 have ov1_0:=ho1.has.one 0 _ rfl
 have ov1_1:=ho1.has.one 1 _ rfl
 simp only [World.size_alloc] at ho1
 have HO1_1:=Lib.hid ho1.inn; clear ho1
 have hb1:=Below.up ((((Below.refl w.heap.size w).alloc (Nat.le_refl _) _).alloc (by simp<;>omega) _).alloc (by simp<;>omega) _) hbx1 (by simp<;>omega)
 have hz1:=hbx1.size
 simp at hz1
 have q1_0:w.heap.size < w1.heap.size:=by omega
 have q1_1:w.heap.size+1 < w1.heap.size:=by omega
 have q1_2:w.heap.size+1+1 < w1.heap.size:=by omega
 obtain ⟨hc1,hf1⟩:=bcell hbx1
 go_wp2_with fail
 have hbs1:=((hb1.setCell (p:=⟨w.heap.size+1+1,0,none⟩) (by simp<;>omega) v1_0).setCell (p:=⟨w.heap.size+1+1,1,none⟩) (by simp<;>omega) v1_1)
 have HOs1_1:=((HO1_1.out.setCell (p:=⟨w.heap.size+1+1,0,none⟩) (.inl (by simp<;>omega)) v1_0).setCell (p:=⟨w.heap.size+1+1,1,none⟩) (.inl (by simp<;>omega)) v1_1)
 refine (toIntS_any _ _ _ (HX1.out.below hbs1) (by have:=HS.out; unfold tRat at this; omega)).mono ?_
 rintro e w2 ⟨v2,rfl,ho2,hbx2⟩
 obtain ⟨ad2,cap2,rfl,_,_⟩:=ho2.has.len_slice
 simp only [World.size_setCell] at ho2
 have HO2_2:=Lib.hid ho2.inn; clear ho2
 have hb2:=Below.up hbs1 hbx2 (by simp<;>omega)
 have hz2:=hbx2.size
 simp at hz2
 have q2_0:w.heap.size < w2.heap.size:=by omega
 have q2_1:w.heap.size+1 < w2.heap.size:=by omega
 have q2_2:w.heap.size+1+1 < w2.heap.size:=by omega
 have HO1_2:=Lib.hid (HOs1_1.below hbx2 (by simp)); clear HOs1_1 HO1_1
 obtain ⟨hc2,hf2⟩:=bcell hbx2
 go_wp2
 refine bodyPost_ret (v:=.agg #[v1_0,v1_1,(Value.slice ad2 (x.2).length cap2)]) (by simp [results,Tryz.results78,go_sem,hc1,hc2,q1_1]) rfl ⟨_,rfl,⟨[v1_0,v1_1,(Value.slice ad2 (x.2).length cap2)],rfl,?_⟩,?_⟩
 ·have G1:=((((HO1_2.out.setCell (p:=⟨w.heap.size+1+1,2,none⟩) (.inl (by simp<;>omega)) (Value.slice ad2 (x.2).length cap2)).setCell (p:=⟨w.heap.size+1,0,none⟩) (.inl (by simp<;>omega)) v1_0).setCell (p:=⟨w.heap.size+1,1,none⟩) (.inl (by simp<;>omega)) v1_1).setCell (p:=⟨w.heap.size+1,2,none⟩) (.inl (by simp<;>omega)) (Value.slice ad2 (x.2).length cap2))
  have G2:=((((HO2_2.out.setCell (p:=⟨w.heap.size+1+1,2,none⟩) (.inl (by simp<;>omega)) (Value.slice ad2 (x.2).length cap2)).setCell (p:=⟨w.heap.size+1,0,none⟩) (.inl (by simp<;>omega)) v1_0).setCell (p:=⟨w.heap.size+1,1,none⟩) (.inl (by simp<;>omega)) v1_1).setCell (p:=⟨w.heap.size+1,2,none⟩) (.inl (by simp<;>omega)) (Value.slice ad2 (x.2).length cap2))
  exact OwnIn.own (OwnIn.pair G1 G2 (by omega) (by omega) (by omega)) (by omega)
 ·exact ((((hb2.setCell (p:=⟨w.heap.size+1+1,2,none⟩) (by simp<;>omega) (Value.slice ad2 (x.2).length cap2)).setCell (p:=⟨w.heap.size+1,0,none⟩) (by simp<;>omega) v1_0).setCell (p:=⟨w.heap.size+1,1,none⟩) (by simp<;>omega) v1_1).setCell (p:=⟨w.heap.size+1,2,none⟩) (by simp<;>omega) (Value.slice ad2 (x.2).length cap2))
set_option maxRecDepth 100000 in
set_option maxHeartbeats 400000 in
theorem toPoint_any (c0 c1 c2 c3 c4 c5:Value) (x:DPoint) (w:World) (hx:Has RPoint w [c0,c1,c2,c3,c4,c5] x) (hs:tPoint x<=1048576) :
  Calls Tryz.prog 15 #[.agg #[c0,c1,c2,c3,c4,c5]] w (Post (OwnPost RPoint x w)):=by
 obtain ⟨hx0,hx1⟩:=hx.split [c0,c1,c2] [c3,c4,c5] rfl
 have HX0:=Lib.hid hx0
 have HX1:=Lib.hid hx1
 clear hx hx0 hx1
 have HS:=Lib.hid hs; clear hs
 go_enter Tryz.func15,Tryz.ntmps15
 go_wp2_with fail
 refine (toRat_any _ _ _ _ _ (HX0.out.below ((((Below.refl w.heap.size w).alloc (Nat.le_refl _) _).alloc (by simp<;>omega) _).alloc (by simp<;>omega) _)) (by have:=HS.out; unfold tPoint at this; omega)).mono ?_
 rintro e w1 ⟨v1,rfl,⟨cs1,rfl,ho1⟩,hbx1⟩
 obtain ⟨v1_0,v1_1,v1_2,rfl⟩:=list3 ho1.has.len
 have ov1_0:=ho1.has.one 0 _ rfl
 have ov1_1:=ho1.has.one 1 _ rfl
 have ov1_2:=ho1.has.one 2 _ rfl
 simp only [World.size_alloc] at ho1
 have HO1_1:=Lib.hid ho1.inn; clear ho1
 have hb1:=Below.up ((((Below.refl w.heap.size w).alloc (Nat.le_refl _) _).alloc (by simp<;>omega) _).alloc (by simp<;>omega) _) hbx1 (by simp<;>omega)
 have hz1:=hbx1.size
 simp at hz1
 have q1_0:w.heap.size < w1.heap.size:=by omega
 have q1_1:w.heap.size+1 < w1.heap.size:=by omega
 have q1_2:w.heap.size+1+1 < w1.heap.size:=by omega
 obtain ⟨hc1,hf1⟩:=bcell hbx1
 go_wp2_with fail
 have hbs1:=(((hb1.setCell (p:=⟨w.heap.size+1+1,0,none⟩) (by simp<;>omega) v1_0).setCell (p:=⟨w.heap.size+1+1,1,none⟩) (by simp<;>omega) v1_1).setCell (p:=⟨w.heap.size+1+1,2,none⟩) (by simp<;>omega) v1_2)
 have HOs1_1:=(((HO1_1.out.setCell (p:=⟨w.heap.size+1+1,0,none⟩) (.inl (by simp<;>omega)) v1_0).setCell (p:=⟨w.heap.size+1+1,1,none⟩) (.inl (by simp<;>omega)) v1_1).setCell (p:=⟨w.heap.size+1+1,2,none⟩) (.inl (by simp<;>omega)) v1_2)
 refine (toRat_any _ _ _ _ _ (HX1.out.below hbs1) (by have:=HS.out; unfold tPoint at this; omega)).mono ?_
 rintro e w2 ⟨v2,rfl,⟨cs2,rfl,ho2⟩,hbx2⟩
 obtain ⟨v2_0,v2_1,v2_2,rfl⟩:=list3 ho2.has.len
 have ov2_0:=ho2.has.one 0 _ rfl
 have ov2_1:=ho2.has.one 1 _ rfl
 have ov2_2:=ho2.has.one 2 _ rfl
 simp only [World.size_setCell] at ho2
 have HO2_2:=Lib.hid ho2.inn; clear ho2
 have hb2:=Below.up hbs1 hbx2 (by simp<;>omega)
 have hz2:=hbx2.size
 simp at hz2
 have q2_0:w.heap.size < w2.heap.size:=by omega
 have q2_1:w.heap.size+1 < w2.heap.size:=by omega
 have q2_2:w.heap.size+1+1 < w2.heap.size:=by omega
 have HO1_2:=Lib.hid (HOs1_1.below hbx2 (by simp)); clear HOs1_1 HO1_1
 obtain ⟨hc2,hf2⟩:=bcell hbx2
 go_wp2
 refine bodyPost_ret (v:=.agg #[v1_0,v1_1,v1_2,v2_0,v2_1,v2_2]) (by simp [results,Tryz.results15,go_sem,hc1,hc2,q1_1]) rfl ⟨_,rfl,⟨[v1_0,v1_1,v1_2,v2_0,v2_1,v2_2],rfl,?_⟩,?_⟩
 ·have G1:=(((((((((HO1_2.out.setCell (p:=⟨w.heap.size+1+1,3,none⟩) (.inl (by simp<;>omega)) v2_0).setCell (p:=⟨w.heap.size+1+1,4,none⟩) (.inl (by simp<;>omega)) v2_1).setCell (p:=⟨w.heap.size+1+1,5,none⟩) (.inl (by simp<;>omega)) v2_2).setCell (p:=⟨w.heap.size+1,0,none⟩) (.inl (by simp<;>omega)) v1_0).setCell (p:=⟨w.heap.size+1,1,none⟩) (.inl (by simp<;>omega)) v1_1).setCell (p:=⟨w.heap.size+1,2,none⟩) (.inl (by simp<;>omega)) v1_2).setCell (p:=⟨w.heap.size+1,3,none⟩) (.inl (by simp<;>omega)) v2_0).setCell (p:=⟨w.heap.size+1,4,none⟩) (.inl (by simp<;>omega)) v2_1).setCell (p:=⟨w.heap.size+1,5,none⟩) (.inl (by simp<;>omega)) v2_2)
  have G2:=(((((((((HO2_2.out.setCell (p:=⟨w.heap.size+1+1,3,none⟩) (.inl (by simp<;>omega)) v2_0).setCell (p:=⟨w.heap.size+1+1,4,none⟩) (.inl (by simp<;>omega)) v2_1).setCell (p:=⟨w.heap.size+1+1,5,none⟩) (.inl (by simp<;>omega)) v2_2).setCell (p:=⟨w.heap.size+1,0,none⟩) (.inl (by simp<;>omega)) v1_0).setCell (p:=⟨w.heap.size+1,1,none⟩) (.inl (by simp<;>omega)) v1_1).setCell (p:=⟨w.heap.size+1,2,none⟩) (.inl (by simp<;>omega)) v1_2).setCell (p:=⟨w.heap.size+1,3,none⟩) (.inl (by simp<;>omega)) v2_0).setCell (p:=⟨w.heap.size+1,4,none⟩) (.inl (by simp<;>omega)) v2_1).setCell (p:=⟨w.heap.size+1,5,none⟩) (.inl (by simp<;>omega)) v2_2)
  exact OwnIn.own (OwnIn.pair G1 G2 (by omega) (by omega) (by omega)) (by omega)
 ·exact (((((((((hb2.setCell (p:=⟨w.heap.size+1+1,3,none⟩) (by simp<;>omega) v2_0).setCell (p:=⟨w.heap.size+1+1,4,none⟩) (by simp<;>omega) v2_1).setCell (p:=⟨w.heap.size+1+1,5,none⟩) (by simp<;>omega) v2_2).setCell (p:=⟨w.heap.size+1,0,none⟩) (by simp<;>omega) v1_0).setCell (p:=⟨w.heap.size+1,1,none⟩) (by simp<;>omega) v1_1).setCell (p:=⟨w.heap.size+1,2,none⟩) (by simp<;>omega) v1_2).setCell (p:=⟨w.heap.size+1,3,none⟩) (by simp<;>omega) v2_0).setCell (p:=⟨w.heap.size+1,4,none⟩) (by simp<;>omega) v2_1).setCell (p:=⟨w.heap.size+1,5,none⟩) (by simp<;>omega) v2_2)
set_option maxRecDepth 100000 in
set_option maxHeartbeats 400000 in
theorem toPlacement_any (c0 c1 c2 c3 c4 c5 c6:Value) (x:DPlacement) (w:World) (hx:Has RPlacement w [c0,c1,c2,c3,c4,c5,c6] x) (hs:tPlacement x<=1048576) :
  Calls Tryz.prog 27 #[.agg #[c0,c1,c2,c3,c4,c5,c6]] w (Post (OwnPost RPlacement x w)):=by
 obtain ⟨hx0,hx1⟩:=hx.split [c0] [c1,c2,c3,c4,c5,c6] rfl
 have hI0:=hx0.int.2
 obtain rfl:=hx0.int.1
 have HI0:=Lib.hid hI0; clear hI0
 have HX1:=Lib.hid hx1
 clear hx hx0 hx1
 have HS:=Lib.hid hs; clear hs
 go_enter Tryz.func27,Tryz.ntmps27
 go_wp2_with fail
 refine (toPoint_any _ _ _ _ _ _ _ _ (HX1.out.below ((((Below.refl w.heap.size w).alloc (Nat.le_refl _) _).alloc (by simp<;>omega) _).alloc (by simp<;>omega) _)) (by have:=HS.out; unfold tPlacement at this; omega)).mono ?_
 rintro e w1 ⟨v1,rfl,⟨cs1,rfl,ho1⟩,hbx1⟩
 obtain ⟨v1_0,v1_1,v1_2,v1_3,v1_4,v1_5,rfl⟩:=list6 ho1.has.len
 have ov1_0:=ho1.has.one 0 _ rfl
 have ov1_1:=ho1.has.one 1 _ rfl
 have ov1_2:=ho1.has.one 2 _ rfl
 have ov1_3:=ho1.has.one 3 _ rfl
 have ov1_4:=ho1.has.one 4 _ rfl
 have ov1_5:=ho1.has.one 5 _ rfl
 simp only [World.size_alloc] at ho1
 have HO1_1:=Lib.hid ho1.inn; clear ho1
 have hb1:=Below.up ((((Below.refl w.heap.size w).alloc (Nat.le_refl _) _).alloc (by simp<;>omega) _).alloc (by simp<;>omega) _) hbx1 (by simp<;>omega)
 have hz1:=hbx1.size
 simp at hz1
 have q1_0:w.heap.size < w1.heap.size:=by omega
 have q1_1:w.heap.size+1 < w1.heap.size:=by omega
 have q1_2:w.heap.size+1+1 < w1.heap.size:=by omega
 obtain ⟨hc1,hf1⟩:=bcell hbx1
 go_wp2
 refine bodyPost_ret (v:=.agg #[(Value.int .i64 x.1),v1_0,v1_1,v1_2,v1_3,v1_4,v1_5]) (by simp [results,Tryz.results27,go_sem,hc1]) rfl ⟨_,rfl,⟨[(Value.int .i64 x.1),v1_0,v1_1,v1_2,v1_3,v1_4,v1_5],rfl,?_⟩,?_⟩
 ·have G1:=(((((((((((((HO1_1.out.setCell (p:=⟨w.heap.size+1+1,1,none⟩) (.inl (by simp<;>omega)) v1_0).setCell (p:=⟨w.heap.size+1+1,2,none⟩) (.inl (by simp<;>omega)) v1_1).setCell (p:=⟨w.heap.size+1+1,3,none⟩) (.inl (by simp<;>omega)) v1_2).setCell (p:=⟨w.heap.size+1+1,4,none⟩) (.inl (by simp<;>omega)) v1_3).setCell (p:=⟨w.heap.size+1+1,5,none⟩) (.inl (by simp<;>omega)) v1_4).setCell (p:=⟨w.heap.size+1+1,6,none⟩) (.inl (by simp<;>omega)) v1_5).setCell (p:=⟨w.heap.size+1,0,none⟩) (.inl (by simp<;>omega)) (Value.int .i64 x.1)).setCell (p:=⟨w.heap.size+1,1,none⟩) (.inl (by simp<;>omega)) v1_0).setCell (p:=⟨w.heap.size+1,2,none⟩) (.inl (by simp<;>omega)) v1_1).setCell (p:=⟨w.heap.size+1,3,none⟩) (.inl (by simp<;>omega)) v1_2).setCell (p:=⟨w.heap.size+1,4,none⟩) (.inl (by simp<;>omega)) v1_3).setCell (p:=⟨w.heap.size+1,5,none⟩) (.inl (by simp<;>omega)) v1_4).setCell (p:=⟨w.heap.size+1,6,none⟩) (.inl (by simp<;>omega)) v1_5)
  exact OwnIn.own (OwnIn.pair (OwnIn.int (w.heap.size+1+1+1) _ HI0.out) G1 (by omega) (by omega) (by omega)) (by omega)
 ·exact (((((((((((((hb1.setCell (p:=⟨w.heap.size+1+1,1,none⟩) (by simp<;>omega) v1_0).setCell (p:=⟨w.heap.size+1+1,2,none⟩) (by simp<;>omega) v1_1).setCell (p:=⟨w.heap.size+1+1,3,none⟩) (by simp<;>omega) v1_2).setCell (p:=⟨w.heap.size+1+1,4,none⟩) (by simp<;>omega) v1_3).setCell (p:=⟨w.heap.size+1+1,5,none⟩) (by simp<;>omega) v1_4).setCell (p:=⟨w.heap.size+1+1,6,none⟩) (by simp<;>omega) v1_5).setCell (p:=⟨w.heap.size+1,0,none⟩) (by simp<;>omega) (Value.int .i64 x.1)).setCell (p:=⟨w.heap.size+1,1,none⟩) (by simp<;>omega) v1_0).setCell (p:=⟨w.heap.size+1,2,none⟩) (by simp<;>omega) v1_1).setCell (p:=⟨w.heap.size+1,3,none⟩) (by simp<;>omega) v1_2).setCell (p:=⟨w.heap.size+1,4,none⟩) (by simp<;>omega) v1_3).setCell (p:=⟨w.heap.size+1,5,none⟩) (by simp<;>omega) v1_4).setCell (p:=⟨w.heap.size+1,6,none⟩) (by simp<;>omega) v1_5)
set_option maxRecDepth 100000 in
set_option maxHeartbeats 400000 in
theorem toStep_any (c0 c1 c2 c3 c4 c5 c6:Value) (x:DStep) (w:World) (hx:Has RStep w [c0,c1,c2,c3,c4,c5,c6] x) (hs:tStep x<=1048576) :
  Calls Tryz.prog 98 #[.agg #[c0,c1,c2,c3,c4,c5,c6]] w (Post (OwnPost RStep x w)):=by
 obtain ⟨hx0,hx1⟩:=hx.split [c0] [c1,c2,c3,c4,c5,c6] rfl
 have hI0:=hx0.int.2
 obtain rfl:=hx0.int.1
 have HI0:=Lib.hid hI0; clear hI0
 have HX1:=Lib.hid hx1
 clear hx hx0 hx1
 have HS:=Lib.hid hs; clear hs
 go_enter Tryz.func98,Tryz.ntmps98
 go_wp2_with fail
 refine (toPoint_any _ _ _ _ _ _ _ _ (HX1.out.below ((((Below.refl w.heap.size w).alloc (Nat.le_refl _) _).alloc (by simp<;>omega) _).alloc (by simp<;>omega) _)) (by have:=HS.out; unfold tStep at this; omega)).mono ?_
 rintro e w1 ⟨v1,rfl,⟨cs1,rfl,ho1⟩,hbx1⟩
 obtain ⟨v1_0,v1_1,v1_2,v1_3,v1_4,v1_5,rfl⟩:=list6 ho1.has.len
 have ov1_0:=ho1.has.one 0 _ rfl
 have ov1_1:=ho1.has.one 1 _ rfl
 have ov1_2:=ho1.has.one 2 _ rfl
 have ov1_3:=ho1.has.one 3 _ rfl
 have ov1_4:=ho1.has.one 4 _ rfl
 have ov1_5:=ho1.has.one 5 _ rfl
 simp only [World.size_alloc] at ho1
 have HO1_1:=Lib.hid ho1.inn; clear ho1
 have hb1:=Below.up ((((Below.refl w.heap.size w).alloc (Nat.le_refl _) _).alloc (by simp<;>omega) _).alloc (by simp<;>omega) _) hbx1 (by simp<;>omega)
 have hz1:=hbx1.size
 simp at hz1
 have q1_0:w.heap.size < w1.heap.size:=by omega
 have q1_1:w.heap.size+1 < w1.heap.size:=by omega
 have q1_2:w.heap.size+1+1 < w1.heap.size:=by omega
 obtain ⟨hc1,hf1⟩:=bcell hbx1
 go_wp2
 refine bodyPost_ret (v:=.agg #[(Value.int .i64 x.1),v1_0,v1_1,v1_2,v1_3,v1_4,v1_5]) (by simp [results,Tryz.results98,go_sem,hc1]) rfl ⟨_,rfl,⟨[(Value.int .i64 x.1),v1_0,v1_1,v1_2,v1_3,v1_4,v1_5],rfl,?_⟩,?_⟩
 ·have G1:=(((((((((((((HO1_1.out.setCell (p:=⟨w.heap.size+1+1,1,none⟩) (.inl (by simp<;>omega)) v1_0).setCell (p:=⟨w.heap.size+1+1,2,none⟩) (.inl (by simp<;>omega)) v1_1).setCell (p:=⟨w.heap.size+1+1,3,none⟩) (.inl (by simp<;>omega)) v1_2).setCell (p:=⟨w.heap.size+1+1,4,none⟩) (.inl (by simp<;>omega)) v1_3).setCell (p:=⟨w.heap.size+1+1,5,none⟩) (.inl (by simp<;>omega)) v1_4).setCell (p:=⟨w.heap.size+1+1,6,none⟩) (.inl (by simp<;>omega)) v1_5).setCell (p:=⟨w.heap.size+1,0,none⟩) (.inl (by simp<;>omega)) (Value.int .i64 x.1)).setCell (p:=⟨w.heap.size+1,1,none⟩) (.inl (by simp<;>omega)) v1_0).setCell (p:=⟨w.heap.size+1,2,none⟩) (.inl (by simp<;>omega)) v1_1).setCell (p:=⟨w.heap.size+1,3,none⟩) (.inl (by simp<;>omega)) v1_2).setCell (p:=⟨w.heap.size+1,4,none⟩) (.inl (by simp<;>omega)) v1_3).setCell (p:=⟨w.heap.size+1,5,none⟩) (.inl (by simp<;>omega)) v1_4).setCell (p:=⟨w.heap.size+1,6,none⟩) (.inl (by simp<;>omega)) v1_5)
  exact OwnIn.own (OwnIn.pair (OwnIn.int (w.heap.size+1+1+1) _ HI0.out) G1 (by omega) (by omega) (by omega)) (by omega)
 ·exact (((((((((((((hb1.setCell (p:=⟨w.heap.size+1+1,1,none⟩) (by simp<;>omega) v1_0).setCell (p:=⟨w.heap.size+1+1,2,none⟩) (by simp<;>omega) v1_1).setCell (p:=⟨w.heap.size+1+1,3,none⟩) (by simp<;>omega) v1_2).setCell (p:=⟨w.heap.size+1+1,4,none⟩) (by simp<;>omega) v1_3).setCell (p:=⟨w.heap.size+1+1,5,none⟩) (by simp<;>omega) v1_4).setCell (p:=⟨w.heap.size+1+1,6,none⟩) (by simp<;>omega) v1_5).setCell (p:=⟨w.heap.size+1,0,none⟩) (by simp<;>omega) (Value.int .i64 x.1)).setCell (p:=⟨w.heap.size+1,1,none⟩) (by simp<;>omega) v1_0).setCell (p:=⟨w.heap.size+1,2,none⟩) (by simp<;>omega) v1_1).setCell (p:=⟨w.heap.size+1,3,none⟩) (by simp<;>omega) v1_2).setCell (p:=⟨w.heap.size+1,4,none⟩) (by simp<;>omega) v1_3).setCell (p:=⟨w.heap.size+1,5,none⟩) (by simp<;>omega) v1_4).setCell (p:=⟨w.heap.size+1,6,none⟩) (by simp<;>omega) v1_5)
theorem infoStep:(Tryz.prog.info? 104).map (fun i=>(i.zero,i.size,i.bytes))=some (some (.agg #[.int .i64 0,.bool false,.slice none 0 0,.slice none 0 0,.bool false,.slice none 0 0,.slice none 0 0]),7,120):=by kernel_rfl
set_option maxRecDepth 100000 in
set_option maxHeartbeats 400000 in
theorem toStepS_any (v:Value) (l:DStepS) (w:World) (hl:Has RStepS w [v] l) (hs:l.length+tStepS l<=1048576) :
  Calls Tryz.prog 28 #[v] w (Post (Own1Post RStepS l w)):=by
 obtain ⟨ad,c,rfl,hc,hm,hg⟩:=hl.elems
 unfold maxLen at hm
 have HG:=Lib.hid hg; clear hg hl
 have hln:l.length<=1048576:=by omega
 obtain ⟨i0,hi,hz0,hz1,hz2⟩:=info_parts infoStep
 go_enter Tryz.func28,Tryz.ntmps28
 go_wp2_with (at_make; refine wpList_make_full _ rfl _ _ 67 rfl w.heap.size 104 i0 _ 7 Tryz.underlying67 hi hz0 hz1 _ _ _ _ l.length rfl rfl rfl rfl (by rw [hz2]; omega) (by unfold maxLen; omega) (Nat.le_refl _) ?_)
 intro w1 hown hgrow
 have hb0:Below w.heap.size w w1:=(Below.refl _ _).grown hgrow (Nat.le_refl _) (by simp)
 have HM0:=Lib.hid (Made.start (A:=RStep) hown); clear hown hgrow hi hz0 hz1 hz2
 go_wp2
 go_loopw [4] (fun i wr=>∃ k:Nat,k<=l.length/\i=.int .i64 k/\Made RStep wr w.heap.size l.length 104 (l.take k)/\Below w.heap.size w wr) (fun i _=>l.length - (intOf i).toNat)
 case atStart=>exact ⟨0,Nat.zero_le _,rfl,HM0.out,hb0⟩
 case round =>
  obtain ⟨k,hk,rfl,hM,hbw⟩:=hrel
  have HM:=Lib.hid hM; clear hM
  by_cases hkl:k < l.length
  rotate_left
  ·obtain rfl:k=l.length:=by omega
   go_wp2
   go_ret
   have h:=HM.out
   rw [List.take_length] at h
   exact ⟨_,rfl,h.own rfl (by unfold maxLen; omega) (Nat.le_refl _),hbw⟩
  have hgl:w.heap.size < wr.heap.size:=HM.out.lt
  obtain ⟨b,off,cs,rfl,hbl,hx,hcs⟩:=HG.out k hkl
  obtain ⟨c0,c1,c2,c3,c4,c5,c6,rfl⟩:=list7 hx.len
  have HX:=Lib.hid hx
  have hts:tStep l[k]<=1048576:=by have h1:=tStepS_snoc (l.take k) l[k]; rw [<-List.take_succ_eq_append_getElem hkl] at h1; have h2:=tStepS_take l (k+1); omega
  have HTS:=Lib.hid hts
  have g0:wr.cell? ⟨b,off+k * 7,none⟩=some c0:=(hbw.cell (p:=⟨b,_,none⟩) hbl).trans (hcs 0 _ rfl)
  have g1:wr.cell? ⟨b,off+k * 7+1,none⟩=some c1:=(hbw.cell (p:=⟨b,_,none⟩) hbl).trans (hcs 1 _ rfl)
  have g2:wr.cell? ⟨b,off+k * 7+2,none⟩=some c2:=(hbw.cell (p:=⟨b,_,none⟩) hbl).trans (hcs 2 _ rfl)
  have g3:wr.cell? ⟨b,off+k * 7+3,none⟩=some c3:=(hbw.cell (p:=⟨b,_,none⟩) hbl).trans (hcs 3 _ rfl)
  have g4:wr.cell? ⟨b,off+k * 7+4,none⟩=some c4:=(hbw.cell (p:=⟨b,_,none⟩) hbl).trans (hcs 4 _ rfl)
  have g5:wr.cell? ⟨b,off+k * 7+5,none⟩=some c5:=(hbw.cell (p:=⟨b,_,none⟩) hbl).trans (hcs 5 _ rfl)
  have g6:wr.cell? ⟨b,off+k * 7+6,none⟩=some c6:=(hbw.cell (p:=⟨b,_,none⟩) hbl).trans (hcs 6 _ rfl)
  clear hcs hx hts
  go_wp2_with fail
  refine (toStep_any _ _ _ _ _ _ _ _ _ (HX.out.below hbw) HTS.out).mono ?_
  rintro e w2 ⟨v1,rfl,⟨cs1,rfl,ho1⟩,hbx⟩
  obtain ⟨v1_0,v1_1,v1_2,v1_3,v1_4,v1_5,v1_6,rfl⟩:=list7 ho1.has.len
  have ov1_0:=ho1.has.one 0 _ rfl
  have ov1_1:=ho1.has.one 1 _ rfl
  have ov1_2:=ho1.has.one 2 _ rfl
  have ov1_3:=ho1.has.one 3 _ rfl
  have ov1_4:=ho1.has.one 4 _ rfl
  have ov1_5:=ho1.has.one 5 _ rfl
  have ov1_6:=ho1.has.one 6 _ rfl
  have HO:=Lib.hid ho1; clear ho1
  have hb2:=Below.up hbw hbx hbw.size
  have hM2:=HM.out.below hbx
  have hkm:(k+1) * 7<=l.length * 7:=Nat.mul_le_mul_right _ hkl
  obtain ⟨y0,hy0⟩:∃ y,w2.cell? ⟨w.heap.size,k * 7,none⟩=some y:=hM2.cell _ (by show k * 7 < l.length * 7; omega)
  obtain ⟨y1,hy1⟩:∃ y,w2.cell? ⟨w.heap.size,k * 7+1,none⟩=some y:=hM2.cell _ (by show k * 7+1 < l.length * 7; omega)
  obtain ⟨y2,hy2⟩:∃ y,w2.cell? ⟨w.heap.size,k * 7+2,none⟩=some y:=hM2.cell _ (by show k * 7+2 < l.length * 7; omega)
  obtain ⟨y3,hy3⟩:∃ y,w2.cell? ⟨w.heap.size,k * 7+3,none⟩=some y:=hM2.cell _ (by show k * 7+3 < l.length * 7; omega)
  obtain ⟨y4,hy4⟩:∃ y,w2.cell? ⟨w.heap.size,k * 7+4,none⟩=some y:=hM2.cell _ (by show k * 7+4 < l.length * 7; omega)
  obtain ⟨y5,hy5⟩:∃ y,w2.cell? ⟨w.heap.size,k * 7+5,none⟩=some y:=hM2.cell _ (by show k * 7+5 < l.length * 7; omega)
  obtain ⟨y6,hy6⟩:∃ y,w2.cell? ⟨w.heap.size,k * 7+6,none⟩=some y:=hM2.cell _ (by show k * 7+6 < l.length * 7; omega)
  have hfz:=hM2.frozen
  clear hM2
  go_wp2
  go_roundw
  case rel =>
   have hst:=HM.out.step hbx HO.out (by rw [List.length_take]; omega)
   rw [<-List.take_succ_eq_append_getElem hkl,List.length_take,Nat.min_eq_left hk] at hst
   exact ⟨k+1,by omega,by go_num,hst,putCells_below w.heap.size [v1_0,v1_1,v1_2,v1_3,v1_4,v1_5,v1_6] _ (k * 7) hb2 (Nat.le_refl _)⟩
  case measure=>simp [intOf]; omega
end Go.Proofs.YtffdhjnbppagjaaGreat

namespace Go.Proofs.YtffdhjnbppagjaaGreat
open Go.RowKit
set_option maxRecDepth 100000 in
set_option maxHeartbeats 400000 in
theorem eqIntS_any (va vb:Value) (a b:DIntS) (w:World) (ha:Has RIntS w [va] a) (hb:Has RIntS w [vb] b) :
  Calls Tryz.prog 47 #[va,vb] w (Post (EqPost a b w)):=by
 obtain ⟨aa,ca,rfl,la,ma,ga⟩:=ha.elems
 obtain ⟨ab,cb,rfl,lb,mb,gb⟩:=hb.elems
 unfold maxLen at ma mb
 have HA:=Lib.hid ga; have HB:=Lib.hid gb; clear ga gb ha hb
 by_cases hl:a.length=b.length
 rotate_left
 ·have hn:((a.length:Int) != (b.length:Int))=true:=by simp; omega
  have HL:=Lib.hid hl; clear hl
  go_enter Tryz.func47,Tryz.ntmps47
  go_wp2
  go_ret
  exact ⟨_,rfl,congrArg Value.bool (eqb_false fun h=>HL.out (by rw [h])).symm,Below.refl _ _⟩
 have hn:((a.length:Int) != (b.length:Int))=false:=by simp; omega
 have HL:=Lib.hid hl; clear hl
 go_enter Tryz.func47,Tryz.ntmps47
 go_wp2
 go_loopw [5] (fun i wr=>∃ k:Nat,k<=a.length/\i=.int .i64 k/\a.take k=b.take k/\Below w.heap.size w wr) (fun i _=>a.length - (intOf i).toNat)
 case atStart=>exact ⟨0,Nat.zero_le _,rfl,rfl,Below.refl _ _⟩
 case round =>
  obtain ⟨k,hk,rfl,htk,hbw⟩:=hrel
  have HT:=Lib.hid htk; clear htk
  by_cases hlt:k < a.length
  rotate_left
  ·go_wp2
   go_ret
   exact ⟨_,rfl,congrArg Value.bool (eqb_true (by have h1:=HT.out; have h2:=HL.out; rwa [List.take_of_length_le (by omega),List.take_of_length_le (by omega)] at h1)).symm,hbw⟩
  have hlt':k < b.length:=by have:=HL.out; omega
  obtain ⟨b1,o1,cs1,rfl,hbl,hx,hcs⟩:=HA.out k hlt
  obtain ⟨b2,o2,cs2,rfl,hbl2,hy,hds⟩:=HB.out k hlt'
  obtain ⟨c0,rfl⟩:=list1 hx.len
  obtain ⟨d0,rfl⟩:=list1 hy.len
  obtain rfl:=hx.int.1
  obtain rfl:=hy.int.1
  have g0:wr.cell? ⟨b1,o1+k,none⟩=some (.int .i64 a[k]):=(hbw.cell (p:=⟨b1,_,none⟩) hbl).trans (by simpa [Rp.int] using hcs 0 _ rfl)
  have e0:wr.cell? ⟨b2,o2+k,none⟩=some (.int .i64 b[k]):=(hbw.cell (p:=⟨b2,_,none⟩) hbl2).trans (by simpa [Rp.int] using hds 0 _ rfl)
  clear hcs hds hx hy
  by_cases hab:a[k]=b[k]
  ·have hn:(a[k] != b[k])=false:=by simp [hab]
   have HAB:=Lib.hid hab; clear hab
   go_wp2
   go_quiet (fail)
   go_wp2
   go_roundw
   case rel=>exact ⟨k+1,by omega,by go_num,by rw [List.take_succ_eq_append_getElem hlt,List.take_succ_eq_append_getElem hlt',HT.out,HAB.out],hbw.drewN _⟩
   case measure=>simp [intOf]; omega
  ·have hn:(a[k] != b[k])=true:=by simp [hab]
   have HAB:=Lib.hid hab; clear hab
   go_wp2
   go_quiet (fail)
   go_wp2
   go_ret
   exact ⟨_,rfl,congrArg Value.bool (eqb_false fun h=>HAB.out (by subst h; rfl)).symm,hbw.drewN _⟩
set_option maxHeartbeats 400000 in
theorem eqBigInt_any (c0 c1 d0 d1:Value) (x y:DBigInt) (w:World) (hx:Has RBigInt w [c0,c1] x) (hy:Has RBigInt w [d0,d1] y) :
  Calls Tryz.prog 84 #[.agg #[c0,c1],.agg #[d0,d1]] w (Post (EqPost x y w)):=by
 obtain ⟨hx0,hx1⟩:=hx.split [c0] [c1] rfl
 obtain ⟨hy0,hy1⟩:=hy.split [d0] [d1] rfl
 obtain rfl:=hx0.bool
 obtain rfl:=hy0.bool
 have HX1:=Lib.hid hx1
 have HY1:=Lib.hid hy1
 clear hx hy hx0 hx1 hy0 hy1
 by_cases he0:x.1=y.1
 rotate_left
 ·have hn:(!(x.1 == y.1))=true:=by simp [he0]
  have HN:=Lib.hid he0; clear he0
  go_enter Tryz.func84,Tryz.ntmps84
  go_wp2
  go_ret
  exact ⟨_,rfl,congrArg Value.bool (eqb_false fun h=>HN.out (by rw [h])).symm,((Below.refl w.heap.size w).alloc (Nat.le_refl _) _).alloc (by simp) _⟩
 have hn0:(!(x.1 == y.1))=false:=by simp [he0]
 have HE0:=Lib.hid he0; clear he0
 go_enter Tryz.func84,Tryz.ntmps84
 have hb0:=((Below.refl w.heap.size w).alloc (Nat.le_refl _) (Obj.cells #[.bool x.1,c1] 37)).alloc (by simp) (Obj.cells #[.bool y.1,d1] 37)
 go_wp2_with fail
 refine (eqIntS_any _ _ _ _ _ (HX1.out.below hb0) (HY1.out.below hb0)).mono ?_
 rintro e w1 ⟨v,rfl,rfl,hbx1⟩
 have hb1:=Below.up hb0 hbx1 hb0.size
 by_cases he1:x.2=y.2
 rotate_left
 ·rw [eqb_false he1]
  have HN:=Lib.hid he1; clear he1
  go_wp2
  go_ret
  exact ⟨_,rfl,congrArg Value.bool (eqb_false fun h=>HN.out (by rw [h])).symm,hb1⟩
 rw [eqb_true he1]
 have HE1:=Lib.hid he1; clear he1
 go_wp2
 go_ret
 exact ⟨_,rfl,congrArg Value.bool (eqb_true (Prod.ext HE0.out (HE1.out))).symm,hb1⟩
set_option maxHeartbeats 400000 in
theorem eqRat_any (c0 c1 c2 d0 d1 d2:Value) (x y:DRat) (w:World) (hx:Has RRat w [c0,c1,c2] x) (hy:Has RRat w [d0,d1,d2] y) :
  Calls Tryz.prog 17 #[.agg #[c0,c1,c2],.agg #[d0,d1,d2]] w (Post (EqPost x y w)):=by
 obtain ⟨hx0,hx1⟩:=hx.split [c0,c1] [c2] rfl
 obtain ⟨hy0,hy1⟩:=hy.split [d0,d1] [d2] rfl
 have HX0:=Lib.hid hx0
 have HY0:=Lib.hid hy0
 have HX1:=Lib.hid hx1
 have HY1:=Lib.hid hy1
 clear hx hy hx0 hx1 hy0 hy1
 go_enter Tryz.func17,Tryz.ntmps17
 have hb0:=((Below.refl w.heap.size w).alloc (Nat.le_refl _) (Obj.cells #[c0,c1,c2] 39)).alloc (by simp) (Obj.cells #[d0,d1,d2] 39)
 go_wp2_with fail
 refine (eqBigInt_any _ _ _ _ _ _ _ (HX0.out.below hb0) (HY0.out.below hb0)).mono ?_
 rintro e w1 ⟨v,rfl,rfl,hbx1⟩
 have hb1:=Below.up hb0 hbx1 hb0.size
 obtain ⟨hc1,hf1⟩:=bcell hbx1
 by_cases he0:x.1=y.1
 rotate_left
 ·rw [eqb_false he0]
  have HN:=Lib.hid he0; clear he0
  go_wp2
  go_ret
  exact ⟨_,rfl,congrArg Value.bool (eqb_false fun h=>HN.out (by rw [h])).symm,hb1⟩
 rw [eqb_true he0]
 have HE0:=Lib.hid he0; clear he0
 go_wp2_with fail
 refine (eqIntS_any _ _ _ _ _ (HX1.out.below hb1) (HY1.out.below hb1)).mono ?_
 rintro e w2 ⟨v,rfl,rfl,hbx2⟩
 have hb2:=Below.up hb1 hbx2 hb1.size
 by_cases he1:x.2=y.2
 rotate_left
 ·rw [eqb_false he1]
  have HN:=Lib.hid he1; clear he1
  go_wp2
  go_ret
  exact ⟨_,rfl,congrArg Value.bool (eqb_false fun h=>HN.out (by rw [h])).symm,hb2⟩
 rw [eqb_true he1]
 have HE1:=Lib.hid he1; clear he1
 go_wp2
 go_ret
 exact ⟨_,rfl,congrArg Value.bool (eqb_true (Prod.ext HE0.out (HE1.out))).symm,hb2⟩
set_option maxHeartbeats 400000 in
theorem eqPoint_any (c0 c1 c2 c3 c4 c5 d0 d1 d2 d3 d4 d5:Value) (x y:DPoint) (w:World) (hx:Has RPoint w [c0,c1,c2,c3,c4,c5] x) (hy:Has RPoint w [d0,d1,d2,d3,d4,d5] y) :
  Calls Tryz.prog 19 #[.agg #[c0,c1,c2,c3,c4,c5],.agg #[d0,d1,d2,d3,d4,d5]] w (Post (EqPost x y w)):=by
 obtain ⟨hx0,hx1⟩:=hx.split [c0,c1,c2] [c3,c4,c5] rfl
 obtain ⟨hy0,hy1⟩:=hy.split [d0,d1,d2] [d3,d4,d5] rfl
 have HX0:=Lib.hid hx0
 have HY0:=Lib.hid hy0
 have HX1:=Lib.hid hx1
 have HY1:=Lib.hid hy1
 clear hx hy hx0 hx1 hy0 hy1
 go_enter Tryz.func19,Tryz.ntmps19
 have hb0:=((Below.refl w.heap.size w).alloc (Nat.le_refl _) (Obj.cells #[c0,c1,c2,c3,c4,c5] 48)).alloc (by simp) (Obj.cells #[d0,d1,d2,d3,d4,d5] 48)
 go_wp2_with fail
 refine (eqRat_any _ _ _ _ _ _ _ _ _ (HX0.out.below hb0) (HY0.out.below hb0)).mono ?_
 rintro e w1 ⟨v,rfl,rfl,hbx1⟩
 have hb1:=Below.up hb0 hbx1 hb0.size
 obtain ⟨hc1,hf1⟩:=bcell hbx1
 by_cases he0:x.1=y.1
 rotate_left
 ·rw [eqb_false he0]
  have HN:=Lib.hid he0; clear he0
  go_wp2
  go_ret
  exact ⟨_,rfl,congrArg Value.bool (eqb_false fun h=>HN.out (by rw [h])).symm,hb1⟩
 rw [eqb_true he0]
 have HE0:=Lib.hid he0; clear he0
 go_wp2_with fail
 refine (eqRat_any _ _ _ _ _ _ _ _ _ (HX1.out.below hb1) (HY1.out.below hb1)).mono ?_
 rintro e w2 ⟨v,rfl,rfl,hbx2⟩
 have hb2:=Below.up hb1 hbx2 hb1.size
 by_cases he1:x.2=y.2
 rotate_left
 ·rw [eqb_false he1]
  have HN:=Lib.hid he1; clear he1
  go_wp2
  go_ret
  exact ⟨_,rfl,congrArg Value.bool (eqb_false fun h=>HN.out (by rw [h])).symm,hb2⟩
 rw [eqb_true he1]
 have HE1:=Lib.hid he1; clear he1
 go_wp2
 go_ret
 exact ⟨_,rfl,congrArg Value.bool (eqb_true (Prod.ext HE0.out (HE1.out))).symm,hb2⟩
set_option maxHeartbeats 400000 in
theorem eqPlacement_any (c0 c1 c2 c3 c4 c5 c6 d0 d1 d2 d3 d4 d5 d6:Value) (x y:DPlacement) (w:World) (hx:Has RPlacement w [c0,c1,c2,c3,c4,c5,c6] x) (hy:Has RPlacement w [d0,d1,d2,d3,d4,d5,d6] y) :
  Calls Tryz.prog 30 #[.agg #[c0,c1,c2,c3,c4,c5,c6],.agg #[d0,d1,d2,d3,d4,d5,d6]] w (Post (EqPost x y w)):=by
 obtain ⟨hx0,hx1⟩:=hx.split [c0] [c1,c2,c3,c4,c5,c6] rfl
 obtain ⟨hy0,hy1⟩:=hy.split [d0] [d1,d2,d3,d4,d5,d6] rfl
 obtain rfl:=hx0.int.1
 obtain rfl:=hy0.int.1
 have HX1:=Lib.hid hx1
 have HY1:=Lib.hid hy1
 clear hx hy hx0 hx1 hy0 hy1
 by_cases he0:x.1=y.1
 rotate_left
 ·have hn:(x.1 != y.1)=true:=by simp [he0]
  have HN:=Lib.hid he0; clear he0
  go_enter Tryz.func30,Tryz.ntmps30
  go_wp2
  go_ret
  exact ⟨_,rfl,congrArg Value.bool (eqb_false fun h=>HN.out (by rw [h])).symm,((Below.refl w.heap.size w).alloc (Nat.le_refl _) _).alloc (by simp) _⟩
 have hn0:(x.1 != y.1)=false:=by simp [he0]
 have HE0:=Lib.hid he0; clear he0
 go_enter Tryz.func30,Tryz.ntmps30
 have hb0:=((Below.refl w.heap.size w).alloc (Nat.le_refl _) (Obj.cells #[.int .i64 x.1,c1,c2,c3,c4,c5,c6] 65)).alloc (by simp) (Obj.cells #[.int .i64 y.1,d1,d2,d3,d4,d5,d6] 65)
 go_wp2_with fail
 refine (eqPoint_any _ _ _ _ _ _ _ _ _ _ _ _ _ _ _ (HX1.out.below hb0) (HY1.out.below hb0)).mono ?_
 rintro e w1 ⟨v,rfl,rfl,hbx1⟩
 have hb1:=Below.up hb0 hbx1 hb0.size
 by_cases he1:x.2=y.2
 rotate_left
 ·rw [eqb_false he1]
  have HN:=Lib.hid he1; clear he1
  go_wp2
  go_ret
  exact ⟨_,rfl,congrArg Value.bool (eqb_false fun h=>HN.out (by rw [h])).symm,hb1⟩
 rw [eqb_true he1]
 have HE1:=Lib.hid he1; clear he1
 go_wp2
 go_ret
 exact ⟨_,rfl,congrArg Value.bool (eqb_true (Prod.ext HE0.out (HE1.out))).symm,hb1⟩
set_option maxHeartbeats 400000 in
theorem eqStep_any (c0 c1 c2 c3 c4 c5 c6 d0 d1 d2 d3 d4 d5 d6:Value) (x y:DStep) (w:World) (hx:Has RStep w [c0,c1,c2,c3,c4,c5,c6] x) (hy:Has RStep w [d0,d1,d2,d3,d4,d5,d6] y) :
  Calls Tryz.prog 105 #[.agg #[c0,c1,c2,c3,c4,c5,c6],.agg #[d0,d1,d2,d3,d4,d5,d6]] w (Post (EqPost x y w)):=by
 obtain ⟨hx0,hx1⟩:=hx.split [c0] [c1,c2,c3,c4,c5,c6] rfl
 obtain ⟨hy0,hy1⟩:=hy.split [d0] [d1,d2,d3,d4,d5,d6] rfl
 obtain rfl:=hx0.int.1
 obtain rfl:=hy0.int.1
 have HX1:=Lib.hid hx1
 have HY1:=Lib.hid hy1
 clear hx hy hx0 hx1 hy0 hy1
 by_cases he0:x.1=y.1
 rotate_left
 ·have hn:(x.1 != y.1)=true:=by simp [he0]
  have HN:=Lib.hid he0; clear he0
  go_enter Tryz.func105,Tryz.ntmps105
  go_wp2
  go_ret
  exact ⟨_,rfl,congrArg Value.bool (eqb_false fun h=>HN.out (by rw [h])).symm,((Below.refl w.heap.size w).alloc (Nat.le_refl _) _).alloc (by simp) _⟩
 have hn0:(x.1 != y.1)=false:=by simp [he0]
 have HE0:=Lib.hid he0; clear he0
 go_enter Tryz.func105,Tryz.ntmps105
 have hb0:=((Below.refl w.heap.size w).alloc (Nat.le_refl _) (Obj.cells #[.int .i64 x.1,c1,c2,c3,c4,c5,c6] 104)).alloc (by simp) (Obj.cells #[.int .i64 y.1,d1,d2,d3,d4,d5,d6] 104)
 go_wp2_with fail
 refine (eqPoint_any _ _ _ _ _ _ _ _ _ _ _ _ _ _ _ (HX1.out.below hb0) (HY1.out.below hb0)).mono ?_
 rintro e w1 ⟨v,rfl,rfl,hbx1⟩
 have hb1:=Below.up hb0 hbx1 hb0.size
 by_cases he1:x.2=y.2
 rotate_left
 ·rw [eqb_false he1]
  have HN:=Lib.hid he1; clear he1
  go_wp2
  go_ret
  exact ⟨_,rfl,congrArg Value.bool (eqb_false fun h=>HN.out (by rw [h])).symm,hb1⟩
 rw [eqb_true he1]
 have HE1:=Lib.hid he1; clear he1
 go_wp2
 go_ret
 exact ⟨_,rfl,congrArg Value.bool (eqb_true (Prod.ext HE0.out (HE1.out))).symm,hb1⟩
set_option maxRecDepth 100000 in
set_option maxHeartbeats 400000 in
theorem eqStepS_any (va vb:Value) (a b:DStepS) (w:World) (ha:Has RStepS w [va] a) (hb:Has RStepS w [vb] b) :
  Calls Tryz.prog 31 #[va,vb] w (Post (EqPost a b w)):=by
 obtain ⟨aa,ca,rfl,la,ma,ga⟩:=ha.elems
 obtain ⟨ab,cb,rfl,lb,mb,gb⟩:=hb.elems
 unfold maxLen at ma mb
 have HA:=Lib.hid ga; have HB:=Lib.hid gb; clear ga gb ha hb
 by_cases hl:a.length=b.length
 rotate_left
 ·have hn:((a.length:Int) != (b.length:Int))=true:=by simp; omega
  have HL:=Lib.hid hl; clear hl
  go_enter Tryz.func31,Tryz.ntmps31
  go_wp2
  go_ret
  exact ⟨_,rfl,congrArg Value.bool (eqb_false fun h=>HL.out (by rw [h])).symm,Below.refl _ _⟩
 have hn:((a.length:Int) != (b.length:Int))=false:=by simp; omega
 have HL:=Lib.hid hl; clear hl
 go_enter Tryz.func31,Tryz.ntmps31
 go_wp2
 go_loopw [5] (fun i wr=>∃ k:Nat,k<=a.length/\i=.int .i64 k/\a.take k=b.take k/\Below w.heap.size w wr) (fun i _=>a.length - (intOf i).toNat)
 case atStart=>exact ⟨0,Nat.zero_le _,rfl,rfl,Below.refl _ _⟩
 case round =>
  obtain ⟨k,hk,rfl,htk,hbw⟩:=hrel
  have HT:=Lib.hid htk; clear htk
  by_cases hlt:k < a.length
  rotate_left
  ·go_wp2
   go_ret
   exact ⟨_,rfl,congrArg Value.bool (eqb_true (by have h1:=HT.out; have h2:=HL.out; rwa [List.take_of_length_le (by omega),List.take_of_length_le (by omega)] at h1)).symm,hbw⟩
  have hlt':k < b.length:=by have:=HL.out; omega
  obtain ⟨b1,o1,cs1,rfl,hbl,hx,hcs⟩:=HA.out k hlt
  obtain ⟨b2,o2,cs2,rfl,hbl2,hy,hds⟩:=HB.out k hlt'
  obtain ⟨c0,c1,c2,c3,c4,c5,c6,rfl⟩:=list7 hx.len
  obtain ⟨d0,d1,d2,d3,d4,d5,d6,rfl⟩:=list7 hy.len
  have g0:wr.cell? ⟨b1,o1+k * 7,none⟩=some c0:=(hbw.cell (p:=⟨b1,_,none⟩) hbl).trans (hcs 0 _ rfl)
  have g1:wr.cell? ⟨b1,o1+k * 7+1,none⟩=some c1:=(hbw.cell (p:=⟨b1,_,none⟩) hbl).trans (hcs 1 _ rfl)
  have g2:wr.cell? ⟨b1,o1+k * 7+2,none⟩=some c2:=(hbw.cell (p:=⟨b1,_,none⟩) hbl).trans (hcs 2 _ rfl)
  have g3:wr.cell? ⟨b1,o1+k * 7+3,none⟩=some c3:=(hbw.cell (p:=⟨b1,_,none⟩) hbl).trans (hcs 3 _ rfl)
  have g4:wr.cell? ⟨b1,o1+k * 7+4,none⟩=some c4:=(hbw.cell (p:=⟨b1,_,none⟩) hbl).trans (hcs 4 _ rfl)
  have g5:wr.cell? ⟨b1,o1+k * 7+5,none⟩=some c5:=(hbw.cell (p:=⟨b1,_,none⟩) hbl).trans (hcs 5 _ rfl)
  have g6:wr.cell? ⟨b1,o1+k * 7+6,none⟩=some c6:=(hbw.cell (p:=⟨b1,_,none⟩) hbl).trans (hcs 6 _ rfl)
  have e0:wr.cell? ⟨b2,o2+k * 7,none⟩=some d0:=(hbw.cell (p:=⟨b2,_,none⟩) hbl2).trans (hds 0 _ rfl)
  have e1:wr.cell? ⟨b2,o2+k * 7+1,none⟩=some d1:=(hbw.cell (p:=⟨b2,_,none⟩) hbl2).trans (hds 1 _ rfl)
  have e2:wr.cell? ⟨b2,o2+k * 7+2,none⟩=some d2:=(hbw.cell (p:=⟨b2,_,none⟩) hbl2).trans (hds 2 _ rfl)
  have e3:wr.cell? ⟨b2,o2+k * 7+3,none⟩=some d3:=(hbw.cell (p:=⟨b2,_,none⟩) hbl2).trans (hds 3 _ rfl)
  have e4:wr.cell? ⟨b2,o2+k * 7+4,none⟩=some d4:=(hbw.cell (p:=⟨b2,_,none⟩) hbl2).trans (hds 4 _ rfl)
  have e5:wr.cell? ⟨b2,o2+k * 7+5,none⟩=some d5:=(hbw.cell (p:=⟨b2,_,none⟩) hbl2).trans (hds 5 _ rfl)
  have e6:wr.cell? ⟨b2,o2+k * 7+6,none⟩=some d6:=(hbw.cell (p:=⟨b2,_,none⟩) hbl2).trans (hds 6 _ rfl)
  have HX:=Lib.hid hx; have HY:=Lib.hid hy
  clear hcs hds hx hy
  go_wp2
  go_still_tail 8,(by kernel_rfl)
  go_wp2_with fail
  refine (eqStep_any _ _ _ _ _ _ _ _ _ _ _ _ _ _ _ _ _ (HX.out.below (hbw.drew)) (HY.out.below (hbw.drew))).mono ?_
  rintro e w1 ⟨v,rfl,rfl,hbx⟩
  have hb1:=Below.up hbw.drew hbx hbw.size
  by_cases hab:a[k]=b[k]
  ·rw [eqb_true hab]
   have HAB:=Lib.hid hab; clear hab
   go_wp2
   go_roundw
   case rel=>exact ⟨k+1,by omega,by go_num,by rw [List.take_succ_eq_append_getElem hlt,List.take_succ_eq_append_getElem hlt',HT.out,HAB.out],hb1⟩
   case measure=>simp [intOf]; omega
  ·rw [eqb_false hab]
   have HAB:=Lib.hid hab; clear hab
   go_wp2
   go_ret
   exact ⟨_,rfl,congrArg Value.bool (eqb_false fun h=>HAB.out (by subst h; rfl)).symm,hb1⟩
end Go.Proofs.YtffdhjnbppagjaaGreat

namespace Go.Proofs.YtffdhjnbppagjaaGreat
open Go.RowKit
set_option maxHeartbeats 400000 in
theorem markIntS_any (v:Value) (x:DIntS) (k:Int) (fp:List Nat) (w:World) (hx:RIntS.rep w [v] x fp) (hn:fp.Nodup) (hf:∀ b ∈ fp,Free w b) (h0:0<=k) (h1:k+x.length<=1073741824) :
  Calls Tryz.prog 50 #[v,.int .i64 k] w (Post (MarkPost RIntS [v] (mkIntS x k) fp (k+x.length) w)):=by
 obtain ⟨ad,c,hv,hlc,hm,hh⟩:=hx
 injection hv with hv
 subst hv
 unfold maxLen at hm
 rcases hh with ⟨rfl,rfl⟩|⟨b,off,fps,hl,rfl,rfl,he⟩
 ·go_enter Tryz.func50,Tryz.ntmps50
  go_wp2
  go_loopw [1,5] (fun kk i wr=>i=.int .i64 0/\kk=.int .i64 k/\wr=w) (fun _ _ _=>0)
  case atStart=>exact ⟨rfl,rfl,rfl⟩
  case round =>
   obtain ⟨rfl,rfl,rfl⟩:=hrel
   go_wp2
   go_ret
   exact ⟨_,rfl,congrArg (Value.int .i64) (by simp),⟨ad,c,rfl,hlc,by unfold maxLen; omega,.inl ⟨rfl,rfl⟩⟩,Upto.refl _ _⟩
 have HN:=Lib.hid hn; have HF:=Lib.hid hf; have HE:=Lib.hid he; have HL:=Lib.hid hl; clear hn hf he hl
 go_enter Tryz.func50,Tryz.ntmps50
 go_wp2
 go_loopw [1,5] (fun kk i wr=>∃ j:Nat,j<=x.length/\i=.int .i64 j/\kk=.int .i64 (k+j)/\Elems Rp.int wr b off (mkIntS (x.take j) k++x.drop j) fps/\Upto (b :: fps.flatten) w wr) (fun _ i _=>x.length - (intOf i).toNat)
 case atStart=>exact ⟨0,Nat.zero_le _,rfl,congrArg (Value.int .i64) (by simp),by simpa [mkIntS] using HE.out,Upto.refl _ _⟩
 case round =>
  obtain ⟨j,hj,rfl,rfl,hE,hU⟩:=hrel
  have HEr:=Lib.hid hE; have HU:=Lib.hid hU; clear hE hU
  by_cases hjl:j < x.length
  rotate_left
  ·obtain rfl:j=x.length:=by omega
   go_wp2
   go_ret
   have h:=HEr.out
   rw [List.take_length,List.drop_length,List.append_nil] at h
   have hml:(mkIntS x k).length=x.length:=by simp [mkIntS]
   exact ⟨_,rfl,rfl,⟨_,c,by rw [hml],by rw [hml]; exact hlc,by unfold maxLen; omega,.inr ⟨b,off,fps,fun e=>HL.out (List.eq_nil_of_length_eq_zero (by rw [<-hml,e]; rfl)),rfl,rfl,h⟩⟩,HU.out⟩
  have hml:(mkIntS (x.take j) k).length=j:=by simp [mkIntS]; omega
  have hget:(mkIntS (x.take j) k++x.drop j)[j]? = some x[j]:=by rw [List.getElem?_append_right (by omega),hml]; simp
  obtain ⟨f,cs,hfj,hr,hcs⟩:=HEr.out.2 j _ hget
  obtain ⟨rfl,rfl,hI⟩:=hr
  have hfr:=HU.out.free b List.mem_cons_self (HF.out b List.mem_cons_self)
  have g0:wr.cell? ⟨b,off+j,none⟩=some (.int .i64 x[j]):=by simpa [Rp.int] using hcs 0 _ rfl
  have hfz:=hfr.frozen
  have HML:=Lib.hid hml; have HFJ:=Lib.hid hfj
  clear hml hget hcs hfj hfr
  go_wp2
  go_roundw
  case rel =>
   refine ⟨j+1,by omega,by go_num,congrArg (Value.int .i64) (by omega),?_,HU.out.setCell (p:=⟨b,off+j,none⟩) List.mem_cons_self _⟩
   have hup:=HEr.out.update (w':=wr.setCell ⟨b,off+j,none⟩ (.int .i64 (k+j))) (x':=k+(j:Nat)) (cs':=[.int .i64 (k+j)]) HN.out HFJ.out ⟨rfl,rfl,by constructor<;>omega⟩
    (cells_cons (by simpa [Rp.int] using World.cell?_setCell_same wr ⟨b,off+j,none⟩ (.int .i64 (k+j)) g0) cells_nil)
    (fun z _ hz _=>Below.heap_setCell _ _ _ _ hz) (fun o ho=>setCell_out _ (by simp [Rp.int] at ho; omega))
   have e:(mkIntS (x.take j) k++x.drop j).set j (k+(j:Nat))=mkIntS (x.take (j+1)) k++x.drop (j+1):=by
    rw [List.set_append_right _ _ (by rw [HML.out]; exact Nat.le_refl _),HML.out,Nat.sub_self,List.drop_eq_getElem_cons hjl,List.set_cons_zero,show mkIntS (x.take (j+1)) k=mkIntS (x.take j) k++[k+(j:Nat)] from by simp only [mkIntS,List.length_take,Nat.min_eq_left (Nat.le_of_lt hjl),Nat.min_eq_left (Nat.succ_le_of_lt hjl),List.range_succ,List.map_append]; rfl]
    simp
   rw [e] at hup
   exact hup
  case measure=>simp [intOf]; omega
set_option maxRecDepth 100000 in
set_option maxHeartbeats 400000 in
theorem markBigInt_any (c0 c1:Value) (x:DBigInt) (k:Int) (fp:List Nat) (w:World) (hx:RBigInt.rep w [c0,c1] x fp) (hn:fp.Nodup) (hf:∀ b ∈ fp,Free w b) (h0:0<=k) (h1:k+cnBigInt x<=1073741824) :
  Calls Tryz.prog 90 #[.agg #[c0,c1],.int .i64 k] w (Post (MarkPost RBigInt [c0,c1] (mkBigInt x k) fp (k+cnBigInt x) w)):=by
 have hlt:=RBigInt.lt hx
 obtain ⟨f0,f1,rfl,hr0,hr1⟩:=rep_split [c0] [c1] rfl hx
 obtain ⟨hs0,rfl⟩:=hr0
 simp only [List.nil_append] at hn hf hlt ⊢
 have HS0:=Lib.hid hs0; clear hs0
 have HR1:=Lib.hid hr1; clear hr1
 have HN:=Lib.hid hn; have HF:=Lib.hid hf; have HLT:=Lib.hid hlt; clear hn hf hlt hx
 have hub:=h1; unfold cnBigInt at hub
 have hp1:(0:Int)<=(x.2.length:Nat):=Int.natCast_nonneg _
 have hend:k+(x.2.length:Nat)=k+(cnBigInt x:Nat):=by unfold cnBigInt; omega
 have HEND:=Lib.hid hend; clear hend
 go_enter Tryz.func90,Tryz.ntmps90
 have hu0:Below w.heap.size w (w.alloc (Obj.cells #[c0,c1] 37)):=(Below.refl w.heap.size w).alloc (Nat.le_refl _) _
 go_wp2_with fail
 refine (markIntS_any _ _ _ f1 _ (RIntS.frame HR1.out fun b hb=>hu0.block b (HLT.out b (hb))) HN.out (fun b hb=>(HF.out b (hb)).frame (hu0.block b (HLT.out b (hb)))) (by omega) (by omega)).mono ?_
 rintro e w1 ⟨v,rfl,rfl,hm1,hu1⟩
 have HMM1:=Lib.hid hm1; clear hm1
 go_wp2
 go_ret
 exact ⟨_,rfl,congrArg (Value.int .i64) HEND.out,(rep_pair (show Rp.bool.rep _ [c0] _ [] from ⟨HS0.out,rfl⟩) HMM1.out),(Upto.of_below hu0 (Nat.le_refl _)).trans hu1⟩
set_option maxRecDepth 100000 in
set_option maxHeartbeats 400000 in
theorem markRat_any (c0 c1 c2:Value) (x:DRat) (k:Int) (fp:List Nat) (w:World) (hx:RRat.rep w [c0,c1,c2] x fp) (hn:fp.Nodup) (hf:∀ b ∈ fp,Free w b) (h0:0<=k) (h1:k+cnRat x<=1073741824) :
  Calls Tryz.prog 22 #[.agg #[c0,c1,c2],.int .i64 k] w (Post (MarkPost RRat [c0,c1,c2] (mkRat x k) fp (k+cnRat x) w)):=by
 have hlt:=RRat.lt hx
 obtain ⟨f0,f1,rfl,hr0,hr1⟩:=rep_split [c0,c1] [c2] rfl hx
 obtain ⟨nd0,nd1,dj,dj2⟩:=nodup_app hn
 have HR0:=Lib.hid hr0; clear hr0
 have HR1:=Lib.hid hr1; clear hr1
 have HN:=Lib.hid hn; have HF:=Lib.hid hf; have HLT:=Lib.hid hlt; clear hn hf hlt hx
 have hub:=h1; unfold cnRat at hub
 have hp0:(0:Int)<=(cnBigInt x.1:Nat):=Int.natCast_nonneg _
 have hp1:(0:Int)<=(x.2.length:Nat):=Int.natCast_nonneg _
 have hend:k+(cnBigInt x.1:Nat)+(x.2.length:Nat)=k+(cnRat x:Nat):=by unfold cnRat; omega
 have HEND:=Lib.hid hend; clear hend
 go_enter Tryz.func22,Tryz.ntmps22
 have hu0:Below w.heap.size w (w.alloc (Obj.cells #[c0,c1,c2] 39)):=(Below.refl w.heap.size w).alloc (Nat.le_refl _) _
 go_wp2_with fail
 refine (markBigInt_any _ _ _ _ f0 _ (RBigInt.frame HR0.out fun b hb=>hu0.block b (HLT.out b (List.mem_append.2 (.inl hb)))) nd0 (fun b hb=>(HF.out b (List.mem_append.2 (.inl hb))).frame (hu0.block b (HLT.out b (List.mem_append.2 (.inl hb))))) (by omega) (by omega)).mono ?_
 rintro e w1 ⟨v,rfl,rfl,hm1,hu1⟩
 have HMM1:=Lib.hid hm1; clear hm1
 have hcb:∀ o,w1.cell? ⟨w.heap.size,o,none⟩=(w.alloc (Obj.cells #[c0,c1,c2] 39)).cell? ⟨w.heap.size,o,none⟩:=fun o=>hu1.cell (by simp) (fun hb=>absurd (HLT.out _ (List.mem_append.2 (.inl hb))) (by omega)) o
 go_wp2_with fail
 have hr11:RIntS.rep w1 [c2] x.2 f1:=Rp.upto (RIntS.frame HR1.out fun b hb=>hu0.block b (HLT.out b (List.mem_append.2 (.inr hb)))) hu1 dj2
 have hfr1:∀ b ∈ f1,Free w1 b:=fun b hb=>((HF.out b (List.mem_append.2 (.inr hb))).frame (hu0.block b (HLT.out b (List.mem_append.2 (.inr hb))))).frame (hu1.block b (Nat.lt_of_lt_of_le (HLT.out b (List.mem_append.2 (.inr hb))) hu0.size) (dj2 b hb))
 refine (markIntS_any _ _ _ f1 _ hr11 nd1 hfr1 (by omega) (by omega)).mono ?_
 rintro e w2 ⟨v,rfl,rfl,hm2,hu2⟩
 have HMM2:=Lib.hid hm2; clear hm2
 go_wp2
 go_ret
 exact ⟨_,rfl,congrArg (Value.int .i64) HEND.out,(rep_pair (Rp.upto HMM1.out hu2 dj) HMM2.out),((Upto.of_below hu0 (Nat.le_refl _)).trans (hu1.mono fun b hb=>List.mem_append.2 (.inl hb))).trans (hu2.mono fun b hb=>List.mem_append.2 (.inr hb))⟩
set_option maxRecDepth 100000 in
set_option maxHeartbeats 400000 in
theorem markPoint_any (c0 c1 c2 c3 c4 c5:Value) (x:DPoint) (k:Int) (fp:List Nat) (w:World) (hx:RPoint.rep w [c0,c1,c2,c3,c4,c5] x fp) (hn:fp.Nodup) (hf:∀ b ∈ fp,Free w b) (h0:0<=k) (h1:k+cnPoint x<=1073741824) :
  Calls Tryz.prog 21 #[.agg #[c0,c1,c2,c3,c4,c5],.int .i64 k] w (Post (MarkPost RPoint [c0,c1,c2,c3,c4,c5] (mkPoint x k) fp (k+cnPoint x) w)):=by
 have hlt:=RPoint.lt hx
 obtain ⟨f0,f1,rfl,hr0,hr1⟩:=rep_split [c0,c1,c2] [c3,c4,c5] rfl hx
 obtain ⟨nd0,nd1,dj,dj2⟩:=nodup_app hn
 have HR0:=Lib.hid hr0; clear hr0
 have HR1:=Lib.hid hr1; clear hr1
 have HN:=Lib.hid hn; have HF:=Lib.hid hf; have HLT:=Lib.hid hlt; clear hn hf hlt hx
 have hub:=h1; unfold cnPoint at hub
 have hp0:(0:Int)<=(cnRat x.1:Nat):=Int.natCast_nonneg _
 have hp1:(0:Int)<=(cnRat x.2:Nat):=Int.natCast_nonneg _
 have hend:k+(cnRat x.1:Nat)+(cnRat x.2:Nat)=k+(cnPoint x:Nat):=by unfold cnPoint; omega
 have HEND:=Lib.hid hend; clear hend
 go_enter Tryz.func21,Tryz.ntmps21
 have hu0:Below w.heap.size w (w.alloc (Obj.cells #[c0,c1,c2,c3,c4,c5] 48)):=(Below.refl w.heap.size w).alloc (Nat.le_refl _) _
 go_wp2_with fail
 refine (markRat_any _ _ _ _ _ f0 _ (RRat.frame HR0.out fun b hb=>hu0.block b (HLT.out b (List.mem_append.2 (.inl hb)))) nd0 (fun b hb=>(HF.out b (List.mem_append.2 (.inl hb))).frame (hu0.block b (HLT.out b (List.mem_append.2 (.inl hb))))) (by omega) (by omega)).mono ?_
 rintro e w1 ⟨v,rfl,rfl,hm1,hu1⟩
 have HMM1:=Lib.hid hm1; clear hm1
 have hcb:∀ o,w1.cell? ⟨w.heap.size,o,none⟩=(w.alloc (Obj.cells #[c0,c1,c2,c3,c4,c5] 48)).cell? ⟨w.heap.size,o,none⟩:=fun o=>hu1.cell (by simp) (fun hb=>absurd (HLT.out _ (List.mem_append.2 (.inl hb))) (by omega)) o
 go_wp2_with fail
 have hr11:RRat.rep w1 [c3,c4,c5] x.2 f1:=Rp.upto (RRat.frame HR1.out fun b hb=>hu0.block b (HLT.out b (List.mem_append.2 (.inr hb)))) hu1 dj2
 have hfr1:∀ b ∈ f1,Free w1 b:=fun b hb=>((HF.out b (List.mem_append.2 (.inr hb))).frame (hu0.block b (HLT.out b (List.mem_append.2 (.inr hb))))).frame (hu1.block b (Nat.lt_of_lt_of_le (HLT.out b (List.mem_append.2 (.inr hb))) hu0.size) (dj2 b hb))
 refine (markRat_any _ _ _ _ _ f1 _ hr11 nd1 hfr1 (by omega) (by omega)).mono ?_
 rintro e w2 ⟨v,rfl,rfl,hm2,hu2⟩
 have HMM2:=Lib.hid hm2; clear hm2
 go_wp2
 go_ret
 exact ⟨_,rfl,congrArg (Value.int .i64) HEND.out,(rep_pair (Rp.upto HMM1.out hu2 dj) HMM2.out),((Upto.of_below hu0 (Nat.le_refl _)).trans (hu1.mono fun b hb=>List.mem_append.2 (.inl hb))).trans (hu2.mono fun b hb=>List.mem_append.2 (.inr hb))⟩
set_option maxRecDepth 100000 in
set_option maxHeartbeats 400000 in
theorem markPlacement_any (c0 c1 c2 c3 c4 c5 c6:Value) (x:DPlacement) (k:Int) (fp:List Nat) (w:World) (hx:RPlacement.rep w [c0,c1,c2,c3,c4,c5,c6] x fp) (hn:fp.Nodup) (hf:∀ b ∈ fp,Free w b) (h0:0<=k) (h1:k+cnPlacement x<=1073741824) :
  Calls Tryz.prog 40 #[.agg #[c0,c1,c2,c3,c4,c5,c6],.int .i64 k] w (Post (MarkPost RPlacement [c0,c1,c2,c3,c4,c5,c6] (mkPlacement x k) fp (k+cnPlacement x) w)):=by
 have hlt:=RPlacement.lt hx
 obtain ⟨f0,f1,rfl,hr0,hr1⟩:=rep_split [c0] [c1,c2,c3,c4,c5,c6] rfl hx
 obtain ⟨hs0,rfl,hI0⟩:=hr0
 simp only [List.nil_append] at hn hf hlt ⊢
 have HS0:=Lib.hid hs0; clear hs0
 have HI0:=Lib.hid hI0; clear hI0
 have HR1:=Lib.hid hr1; clear hr1
 have HN:=Lib.hid hn; have HF:=Lib.hid hf; have HLT:=Lib.hid hlt; clear hn hf hlt hx
 have hub:=h1; unfold cnPlacement at hub
 have hp1:(0:Int)<=(cnPoint x.2:Nat):=Int.natCast_nonneg _
 have hend:k+(cnPoint x.2:Nat)=k+(cnPlacement x:Nat):=by unfold cnPlacement; omega
 have HEND:=Lib.hid hend; clear hend
 go_enter Tryz.func40,Tryz.ntmps40
 have hu0:Below w.heap.size w (w.alloc (Obj.cells #[c0,c1,c2,c3,c4,c5,c6] 65)):=(Below.refl w.heap.size w).alloc (Nat.le_refl _) _
 go_wp2_with fail
 refine (markPoint_any _ _ _ _ _ _ _ _ f1 _ (RPoint.frame HR1.out fun b hb=>hu0.block b (HLT.out b (hb))) HN.out (fun b hb=>(HF.out b (hb)).frame (hu0.block b (HLT.out b (hb)))) (by omega) (by omega)).mono ?_
 rintro e w1 ⟨v,rfl,rfl,hm1,hu1⟩
 have HMM1:=Lib.hid hm1; clear hm1
 go_wp2
 go_ret
 exact ⟨_,rfl,congrArg (Value.int .i64) HEND.out,(rep_pair (show Rp.int.rep _ [c0] _ [] from ⟨HS0.out,rfl,HI0.out⟩) HMM1.out),(Upto.of_below hu0 (Nat.le_refl _)).trans hu1⟩
set_option maxRecDepth 100000 in
set_option maxHeartbeats 1000000 in
theorem markStepS_any (v:Value) (x:DStepS) (k:Int) (fp:List Nat) (w:World) (hx:RStepS.rep w [v] x fp) (hn:fp.Nodup) (hf:∀ b ∈ fp,Free w b) (h0:0<=k) (h1:k+cnStepS x<=1073741824) :
  Calls Tryz.prog 41 #[v,.int .i64 k] w (Post (MarkPost RStepS [v] (mkStepS x k) fp (k+cnStepS x) w)):=by
 obtain ⟨ad,c,hv,hlc,hm,hh⟩:=hx
 injection hv with hv
 subst hv
 unfold maxLen at hm
 rcases hh with ⟨rfl,rfl⟩|⟨b,off,fps,hl,rfl,rfl,he⟩
 ·go_enter Tryz.func41,Tryz.ntmps41
  go_wp2
  go_loopw [1,5] (fun kk i wr=>i=.int .i64 0/\kk=.int .i64 k/\wr=w) (fun _ _ _=>0)
  case atStart=>exact ⟨rfl,rfl,rfl⟩
  case round =>
   obtain ⟨rfl,rfl,rfl⟩:=hrel
   go_wp2
   go_ret
   exact ⟨_,rfl,congrArg (Value.int .i64) (by simp [cnStepS]),⟨ad,c,rfl,hlc,by unfold maxLen; omega,.inl ⟨rfl,rfl⟩⟩,Upto.refl _ _⟩
 have HN:=Lib.hid hn; have HF:=Lib.hid hf; have HE:=Lib.hid he; have HL:=Lib.hid hl; clear hn hf he hl
 go_enter Tryz.func41,Tryz.ntmps41
 go_wp2
 go_loopw [1,5] (fun kk i wr=>∃ j:Nat,j<=x.length/\i=.int .i64 j/\kk=.int .i64 (k+(cnStepS (x.take j):Nat))/\Elems RStep wr b off (mkStepS (x.take j) k++x.drop j) fps/\Upto (b :: fps.flatten) w wr) (fun _ i _=>x.length - (intOf i).toNat)
 case atStart=>exact ⟨0,Nat.zero_le _,rfl,congrArg (Value.int .i64) (by simp [cnStepS]),by simpa [mkStepS] using HE.out,Upto.refl _ _⟩
 case round =>
  obtain ⟨j,hj,rfl,rfl,hE,hU⟩:=hrel
  have HEr:=Lib.hid hE; have HU:=Lib.hid hU; clear hE hU
  by_cases hjl:j < x.length
  rotate_left
  ·obtain rfl:j=x.length:=by omega
   go_wp2
   go_ret
   have h:=HEr.out
   rw [List.take_length,List.drop_length,List.append_nil] at h
   have hml:=mkStepS_len x k
   exact ⟨_,rfl,congrArg (Value.int .i64) (by rw [List.take_length]),⟨_,c,by rw [hml],by rw [hml]; exact hlc,by unfold maxLen; omega,.inr ⟨b,off,fps,fun e=>HL.out (List.eq_nil_of_length_eq_zero (by rw [<-hml,e]; rfl)),rfl,rfl,h⟩⟩,HU.out⟩
  have hml:(mkStepS (x.take j) k).length=j:=by rw [mkStepS_len,List.length_take]; omega
  have hget:(mkStepS (x.take j) k++x.drop j)[j]? = some x[j]:=by rw [List.getElem?_append_right (by omega),hml]; simp
  obtain ⟨f,cs,hfj,hr,hcs⟩:=HEr.out.2 j _ hget
  have hfr:=HU.out.free b List.mem_cons_self (HF.out b List.mem_cons_self)
  have hbf:b ∉ f:=fun h=>(List.nodup_cons.1 HN.out).1 (flat_mem hfj b h)
  have hff:∀ z ∈ f,Free wr z:=fun z hz=>HU.out.free z (List.mem_cons_of_mem _ (flat_mem hfj z hz)) (HF.out z (List.mem_cons_of_mem _ (flat_mem hfj z hz)))
  have hfn:f.Nodup:=(List.pairwise_flatten.1 (List.nodup_cons.1 HN.out).2).1 f (List.mem_of_getElem? hfj)
  have hec:cnStepS (x.take j)+ecStep x[j]=cnStepS (x.take (j+1)):=by rw [List.take_succ_eq_append_getElem hjl,cnStepS_snoc]
  have hect:=cnStepS_take x (j+1)
  obtain ⟨q,hq⟩:∃ q:Int,q=k+(cnStepS (x.take j):Nat):=⟨_,rfl⟩
  have hq0:0<=q:=by omega
  have hq1:q+(ecStep x[j]:Nat)<=1073741824:=by omega
  rw [<-hq]
  have HQ:=Lib.hid hq; have HEC:=Lib.hid hec; have HML:=Lib.hid hml; have HFJ:=Lib.hid hfj
  clear hq hec hml hget hfj hect
  obtain ⟨c0,c1,c2,c3,c4,c5,c6,rfl⟩:=list7 (RStep.len hr)
  obtain ⟨f0,f1,rfl,hp0,hp1⟩:=rep_split [c0] [c1,c2,c3,c4,c5,c6] rfl hr
  obtain ⟨f2,f3,rfl,hp2,hp3⟩:=rep_split [c1,c2,c3] [c4,c5,c6] rfl hp1
  obtain ⟨f4,f5,rfl,hp4,hp5⟩:=rep_split [c1,c2] [c3] rfl hp2
  obtain ⟨f6,f7,rfl,hp6,hp7⟩:=rep_split [c1] [c2] rfl hp4
  obtain ⟨f8,f9,rfl,hp8,hp9⟩:=rep_split [c4,c5] [c6] rfl hp3
  obtain ⟨f10,f11,rfl,hp10,hp11⟩:=rep_split [c4] [c5] rfl hp8
  obtain ⟨he0,rfl,hI0⟩:=hp0
  injection he0 with he0; subst he0
  obtain ⟨he1,rfl⟩:=hp6
  injection he1 with he1; subst he1
  obtain ⟨he4,rfl⟩:=hp10
  injection he4 with he4; subst he4
  have hnd:=hfn
  simp only [List.nil_append,List.append_assoc] at hnd
  have HFF:=Lib.hid hff; have HBF:=Lib.hid hbf; clear hff hbf hfn
  obtain ⟨nd0,hnd0,dd0,de0⟩:=nodup_app hnd
  obtain ⟨nd1,hnd1,dd1,de1⟩:=nodup_app hnd0
  obtain ⟨nd2,nd3,dd2,de2⟩:=nodup_app hnd1
  have hm0:∀ z ∈ f7,z ∈ ([]++((([]++f7)++f5)++(([]++f11)++f9))):=fun z hz=>(List.mem_append.2 (.inr (List.mem_append.2 (.inl (List.mem_append.2 (.inl (List.mem_append.2 (.inr hz))))))))
  have nb0:b ∉ f7:=fun h=>HBF.out (hm0 b h)
  have LP0_0:=Lib.hid hp7; have FR0_0:=Lib.hid (fun (z:Nat) (hz:z ∈ f7)=>HFF.out z (hm0 z hz)); clear hp7
  have hl0:(0:Int)<=(x[j].2.1.1.2.length:Nat):=Int.natCast_nonneg _
  have hm1:∀ z ∈ f5,z ∈ ([]++((([]++f7)++f5)++(([]++f11)++f9))):=fun z hz=>(List.mem_append.2 (.inr (List.mem_append.2 (.inl (List.mem_append.2 (.inr hz))))))
  have nb1:b ∉ f5:=fun h=>HBF.out (hm1 b h)
  have LP1_0:=Lib.hid hp5; have FR1_0:=Lib.hid (fun (z:Nat) (hz:z ∈ f5)=>HFF.out z (hm1 z hz)); clear hp5
  have hl1:(0:Int)<=(x[j].2.1.2.length:Nat):=Int.natCast_nonneg _
  have hm2:∀ z ∈ f11,z ∈ ([]++((([]++f7)++f5)++(([]++f11)++f9))):=fun z hz=>(List.mem_append.2 (.inr (List.mem_append.2 (.inr (List.mem_append.2 (.inl (List.mem_append.2 (.inr hz))))))))
  have nb2:b ∉ f11:=fun h=>HBF.out (hm2 b h)
  have LP2_0:=Lib.hid hp11; have FR2_0:=Lib.hid (fun (z:Nat) (hz:z ∈ f11)=>HFF.out z (hm2 z hz)); clear hp11
  have hl2:(0:Int)<=(x[j].2.2.1.2.length:Nat):=Int.natCast_nonneg _
  have hm3:∀ z ∈ f9,z ∈ ([]++((([]++f7)++f5)++(([]++f11)++f9))):=fun z hz=>(List.mem_append.2 (.inr (List.mem_append.2 (.inr (List.mem_append.2 (.inr hz))))))
  have nb3:b ∉ f9:=fun h=>HBF.out (hm3 b h)
  have LP3_0:=Lib.hid hp9; have FR3_0:=Lib.hid (fun (z:Nat) (hz:z ∈ f9)=>HFF.out z (hm3 z hz)); clear hp9
  have hl3:(0:Int)<=(x[j].2.2.2.length:Nat):=Int.natCast_nonneg _
  have hqe:=hq1; simp only [ecStep,ecPoint,ecRat,ecBigInt] at hqe
  have hbl0:b < wr.heap.size:=hfr.lt
  have g0:wr.cell? ⟨b,off+j * 7,none⟩=some (Value.int .i64 x[j].1):=hcs 0 _ rfl
  have g1:wr.cell? ⟨b,off+j * 7+1,none⟩=some (Value.bool x[j].2.1.1.1):=hcs 1 _ rfl
  have g2:wr.cell? ⟨b,off+j * 7+2,none⟩=some c2:=hcs 2 _ rfl
  have g3:wr.cell? ⟨b,off+j * 7+3,none⟩=some c3:=hcs 3 _ rfl
  have g4:wr.cell? ⟨b,off+j * 7+4,none⟩=some (Value.bool x[j].2.2.1.1):=hcs 4 _ rfl
  have g5:wr.cell? ⟨b,off+j * 7+5,none⟩=some c5:=hcs 5 _ rfl
  have g6:wr.cell? ⟨b,off+j * 7+6,none⟩=some c6:=hcs 6 _ rfl
  have hfz:=hfr.frozen
  have HT0:=Lib.hid (Upto.refl (b :: ([]++((([]++f7)++f5)++(([]++f11)++f9)))) wr)
  clear hcs hfr
  go_wp2_with fail
  have hB0:Upto [b] wr _:=(((Upto.refl [b] wr).setCell (p:=⟨b,off+j * 7,none⟩) List.mem_cons_self (Value.int .i64 (q))).setCell (p:=⟨b,off+j * 7+1,none⟩) List.mem_cons_self (Value.bool ((q+1) % 3 == 0)))
  refine (markIntS_any _ _ _ f7 _ (Rp.upto LP0_0.out hB0 (fun z hz hb=>nb0 (List.mem_singleton.1 hb ▸ hz))) nd0 (fun z hz=>(((FR0_0.out z hz).setCell _ _).setCell _ _)) (by omega) (by omega)).mono ?_
  rintro e w1 ⟨v,rfl,rfl,hmm,hu1⟩
  have hbl1:b < w1.heap.size:=Nat.lt_of_lt_of_le (by simpa using hbl0) hu1.size
  have hcb1:=hu1.cell (b:=b) (by simpa using hbl0) nb0
  have hfb1:=hu1.frozen (b:=b) (by simpa using hbl0) nb0
  have HT1:=Lib.hid (((HT0.out.setCell (p:=⟨b,off+j * 7,none⟩) List.mem_cons_self (Value.int .i64 (q))).setCell (p:=⟨b,off+j * 7+1,none⟩) List.mem_cons_self (Value.bool ((q+1) % 3 == 0))).trans (hu1.mono fun z hz=>List.mem_cons_of_mem _ (hm0 z hz))); clear HT0
  have HO1:=Lib.hid (fun (o:Nat) (ho:o < off+j * 7\/off+j * 7+7<=o)=>(hcb1 o).trans ((setCell_out (Value.bool ((q+1) % 3 == 0)) (by omega)).trans ((setCell_out (Value.int .i64 (q)) (by omega)).trans rfl)));
  have LP0_1:=Lib.hid hmm; clear hmm LP0_0
  have LP1_1:=Lib.hid (Rp.upto (Rp.upto LP1_0.out hB0 (fun z hz hb=>nb1 (List.mem_singleton.1 hb ▸ hz))) hu1 (fun z hz hy=>dd0 z hy (List.mem_append.2 (.inl hz)))); clear LP1_0
  have FR1_1:=Lib.hid (fun (z:Nat) (hz:z ∈ f5)=>((((FR1_0.out z hz).setCell _ _).setCell _ _)).frame (hu1.block z (Free.lt (((FR1_0.out z hz).setCell _ _).setCell _ _)) ((fun z hz hy=>dd0 z hy (List.mem_append.2 (.inl hz))) z hz))); clear FR1_0
  have LP2_1:=Lib.hid (Rp.upto (Rp.upto LP2_0.out hB0 (fun z hz hb=>nb2 (List.mem_singleton.1 hb ▸ hz))) hu1 (fun z hz hy=>dd0 z hy (List.mem_append.2 (.inr (List.mem_append.2 (.inl hz)))))); clear LP2_0
  have FR2_1:=Lib.hid (fun (z:Nat) (hz:z ∈ f11)=>((((FR2_0.out z hz).setCell _ _).setCell _ _)).frame (hu1.block z (Free.lt (((FR2_0.out z hz).setCell _ _).setCell _ _)) ((fun z hz hy=>dd0 z hy (List.mem_append.2 (.inr (List.mem_append.2 (.inl hz))))) z hz))); clear FR2_0
  have LP3_1:=Lib.hid (Rp.upto (Rp.upto LP3_0.out hB0 (fun z hz hb=>nb3 (List.mem_singleton.1 hb ▸ hz))) hu1 (fun z hz hy=>dd0 z hy (List.mem_append.2 (.inr (List.mem_append.2 (.inr (hz))))))); clear LP3_0
  have FR3_1:=Lib.hid (fun (z:Nat) (hz:z ∈ f9)=>((((FR3_0.out z hz).setCell _ _).setCell _ _)).frame (hu1.block z (Free.lt (((FR3_0.out z hz).setCell _ _).setCell _ _)) ((fun z hz hy=>dd0 z hy (List.mem_append.2 (.inr (List.mem_append.2 (.inr (hz)))))) z hz))); clear FR3_0
  clear hu1 hB0 FR0_0
  go_wp2_with fail
  have hB1:Upto [b] w1 _:=(Upto.refl [b] w1)
  refine (markIntS_any _ _ _ f5 _ (Rp.upto LP1_1.out hB1 (fun z hz hb=>nb1 (List.mem_singleton.1 hb ▸ hz))) nd1 (fun z hz=>(FR1_1.out z hz)) (by omega) (by omega)).mono ?_
  rintro e w2 ⟨v,rfl,rfl,hmm,hu2⟩
  have hbl2:b < w2.heap.size:=Nat.lt_of_lt_of_le (by simpa using hbl1) hu2.size
  have hcb2:=hu2.cell (b:=b) (by simpa using hbl1) nb1
  have hfb2:=hu2.frozen (b:=b) (by simpa using hbl1) nb1
  have HT2:=Lib.hid (HT1.out.trans (hu2.mono fun z hz=>List.mem_cons_of_mem _ (hm1 z hz))); clear HT1
  have HO2:=Lib.hid (fun (o:Nat) (ho:o < off+j * 7\/off+j * 7+7<=o)=>(hcb2 o).trans (HO1.out o ho)); clear HO1
  have LP0_2:=Lib.hid (Rp.upto (Rp.upto LP0_1.out hB1 (fun z hz hb=>nb0 (List.mem_singleton.1 hb ▸ hz))) hu2 (fun z hy hz=>dd0 z hy (List.mem_append.2 (.inl hz)))); clear LP0_1
  have LP1_2:=Lib.hid hmm; clear hmm LP1_1
  have LP2_2:=Lib.hid (Rp.upto (Rp.upto LP2_1.out hB1 (fun z hz hb=>nb2 (List.mem_singleton.1 hb ▸ hz))) hu2 (fun z hz hy=>dd1 z hy (List.mem_append.2 (.inl hz)))); clear LP2_1
  have FR2_2:=Lib.hid (fun (z:Nat) (hz:z ∈ f11)=>((FR2_1.out z hz)).frame (hu2.block z (Free.lt (FR2_1.out z hz)) ((fun z hz hy=>dd1 z hy (List.mem_append.2 (.inl hz))) z hz))); clear FR2_1
  have LP3_2:=Lib.hid (Rp.upto (Rp.upto LP3_1.out hB1 (fun z hz hb=>nb3 (List.mem_singleton.1 hb ▸ hz))) hu2 (fun z hz hy=>dd1 z hy (List.mem_append.2 (.inr (hz))))); clear LP3_1
  have FR3_2:=Lib.hid (fun (z:Nat) (hz:z ∈ f9)=>((FR3_1.out z hz)).frame (hu2.block z (Free.lt (FR3_1.out z hz)) ((fun z hz hy=>dd1 z hy (List.mem_append.2 (.inr (hz)))) z hz))); clear FR3_1
  clear hu2 hB1 FR1_1
  go_wp2_with fail
  have hB2:Upto [b] w2 _:=((Upto.refl [b] w2).setCell (p:=⟨b,off+j * 7+4,none⟩) List.mem_cons_self (Value.bool ((q+1+1+(x[j].2.1.1.2.length:Nat)+(x[j].2.1.2.length:Nat)) % 3 == 0)))
  refine (markIntS_any _ _ _ f11 _ (Rp.upto LP2_2.out hB2 (fun z hz hb=>nb2 (List.mem_singleton.1 hb ▸ hz))) nd2 (fun z hz=>((FR2_2.out z hz).setCell _ _)) (by omega) (by omega)).mono ?_
  rintro e w3 ⟨v,rfl,rfl,hmm,hu3⟩
  have hbl3:b < w3.heap.size:=Nat.lt_of_lt_of_le (by simpa using hbl2) hu3.size
  have hcb3:=hu3.cell (b:=b) (by simpa using hbl2) nb2
  have hfb3:=hu3.frozen (b:=b) (by simpa using hbl2) nb2
  have HT3:=Lib.hid ((HT2.out.setCell (p:=⟨b,off+j * 7+4,none⟩) List.mem_cons_self (Value.bool ((q+1+1+(x[j].2.1.1.2.length:Nat)+(x[j].2.1.2.length:Nat)) % 3 == 0))).trans (hu3.mono fun z hz=>List.mem_cons_of_mem _ (hm2 z hz))); clear HT2
  have HO3:=Lib.hid (fun (o:Nat) (ho:o < off+j * 7\/off+j * 7+7<=o)=>(hcb3 o).trans ((setCell_out (Value.bool ((q+1+1+(x[j].2.1.1.2.length:Nat)+(x[j].2.1.2.length:Nat)) % 3 == 0)) (by omega)).trans (HO2.out o ho))); clear HO2
  have LP0_3:=Lib.hid (Rp.upto (Rp.upto LP0_2.out hB2 (fun z hz hb=>nb0 (List.mem_singleton.1 hb ▸ hz))) hu3 (fun z hy hz=>dd0 z hy (List.mem_append.2 (.inr (List.mem_append.2 (.inl hz)))))); clear LP0_2
  have LP1_3:=Lib.hid (Rp.upto (Rp.upto LP1_2.out hB2 (fun z hz hb=>nb1 (List.mem_singleton.1 hb ▸ hz))) hu3 (fun z hy hz=>dd1 z hy (List.mem_append.2 (.inl hz)))); clear LP1_2
  have LP2_3:=Lib.hid hmm; clear hmm LP2_2
  have LP3_3:=Lib.hid (Rp.upto (Rp.upto LP3_2.out hB2 (fun z hz hb=>nb3 (List.mem_singleton.1 hb ▸ hz))) hu3 (fun z hz hy=>dd2 z hy (hz))); clear LP3_2
  have FR3_3:=Lib.hid (fun (z:Nat) (hz:z ∈ f9)=>(((FR3_2.out z hz).setCell _ _)).frame (hu3.block z (Free.lt ((FR3_2.out z hz).setCell _ _)) ((fun z hz hy=>dd2 z hy (hz)) z hz))); clear FR3_2
  clear hu3 hB2 FR2_2
  go_wp2_with fail
  have hB3:Upto [b] w3 _:=(Upto.refl [b] w3)
  refine (markIntS_any _ _ _ f9 _ (Rp.upto LP3_3.out hB3 (fun z hz hb=>nb3 (List.mem_singleton.1 hb ▸ hz))) nd3 (fun z hz=>(FR3_3.out z hz)) (by omega) (by omega)).mono ?_
  rintro e w4 ⟨v,rfl,rfl,hmm,hu4⟩
  have hbl4:b < w4.heap.size:=Nat.lt_of_lt_of_le (by simpa using hbl3) hu4.size
  have hcb4:=hu4.cell (b:=b) (by simpa using hbl3) nb3
  have hfb4:=hu4.frozen (b:=b) (by simpa using hbl3) nb3
  have HT4:=Lib.hid (HT3.out.trans (hu4.mono fun z hz=>List.mem_cons_of_mem _ (hm3 z hz))); clear HT3
  have HO4:=Lib.hid (fun (o:Nat) (ho:o < off+j * 7\/off+j * 7+7<=o)=>(hcb4 o).trans (HO3.out o ho)); clear HO3
  have LP0_4:=Lib.hid (Rp.upto (Rp.upto LP0_3.out hB3 (fun z hz hb=>nb0 (List.mem_singleton.1 hb ▸ hz))) hu4 (fun z hy hz=>dd0 z hy (List.mem_append.2 (.inr (List.mem_append.2 (.inr (hz))))))); clear LP0_3
  have LP1_4:=Lib.hid (Rp.upto (Rp.upto LP1_3.out hB3 (fun z hz hb=>nb1 (List.mem_singleton.1 hb ▸ hz))) hu4 (fun z hy hz=>dd1 z hy (List.mem_append.2 (.inr (hz))))); clear LP1_3
  have LP2_4:=Lib.hid (Rp.upto (Rp.upto LP2_3.out hB3 (fun z hz hb=>nb2 (List.mem_singleton.1 hb ▸ hz))) hu4 (fun z hy hz=>dd2 z hy (hz))); clear LP2_3
  have LP3_4:=Lib.hid hmm; clear hmm LP3_3
  clear hu4 hB3 FR3_3
  go_wp2
  go_roundw
  case rel =>
   have e0:w4.cell? ⟨b,off+j * 7,none⟩=some (Value.int .i64 (q)):=by simp [go_sem,hcb1,hcb2,hcb3,hcb4,g0]
   have e1:w4.cell? ⟨b,off+j * 7+1,none⟩=some (Value.bool ((q+1) % 3 == 0)):=by simp [go_sem,hcb1,hcb2,hcb3,hcb4,g1]
   have e2:w4.cell? ⟨b,off+j * 7+2,none⟩=some c2:=by simp [go_sem,hcb1,hcb2,hcb3,hcb4,g2]
   have e3:w4.cell? ⟨b,off+j * 7+3,none⟩=some c3:=by simp [go_sem,hcb1,hcb2,hcb3,hcb4,g3]
   have e4:w4.cell? ⟨b,off+j * 7+4,none⟩=some (Value.bool ((q+1+1+(x[j].2.1.1.2.length:Nat)+(x[j].2.1.2.length:Nat)) % 3 == 0)):=by simp [go_sem,hcb1,hcb2,hcb3,hcb4,g4]
   have e5:w4.cell? ⟨b,off+j * 7+5,none⟩=some c5:=by simp [go_sem,hcb1,hcb2,hcb3,hcb4,g5]
   have e6:w4.cell? ⟨b,off+j * 7+6,none⟩=some c6:=by simp [go_sem,hcb1,hcb2,hcb3,hcb4,g6]
   have hup:=HEr.out.update (w':=w4) (x':=emStep x[j] q) (cs':=[(Value.int .i64 (q)),(Value.bool ((q+1) % 3 == 0)),c2,c3,(Value.bool ((q+1+1+(x[j].2.1.1.2.length:Nat)+(x[j].2.1.2.length:Nat)) % 3 == 0)),c5,c6]) HN.out HFJ.out (rep_pair (rep_int [] (by first|rfl|(simp only [ecStep,ecPoint,ecRat,ecBigInt]; omega)) (by constructor<;>omega)) (rep_pair (rep_pair (rep_pair (rep_bool [] (by first|rfl|(simp only [ecStep,ecPoint,ecRat,ecBigInt]; omega))) (rep_cast LP0_4.out (congrArg (mkIntS _) (by first|rfl|(simp only [ecStep,ecPoint,ecRat,ecBigInt]; omega))))) (rep_cast LP1_4.out (congrArg (mkIntS _) (by first|rfl|(simp only [ecStep,ecPoint,ecRat,ecBigInt]; omega))))) (rep_pair (rep_pair (rep_bool [] (by first|rfl|(simp only [ecStep,ecPoint,ecRat,ecBigInt]; omega))) (rep_cast LP2_4.out (congrArg (mkIntS _) (by first|rfl|(simp only [ecStep,ecPoint,ecRat,ecBigInt]; omega))))) (rep_cast LP3_4.out (congrArg (mkIntS _) (by first|rfl|(simp only [ecStep,ecPoint,ecRat,ecBigInt]; omega))))))) (cells_cons e0 (cells_cons e1 (cells_cons e2 (cells_cons e3 (cells_cons e4 (cells_cons e5 (cells_cons e6 cells_nil)))))))
    (fun z hz hzb hzf=>(HT4.out).block z hz (by rw [List.mem_cons]; exact fun h=>h.elim hzb hzf))
    (fun o ho=>have ho:o < off+j * 7\/off+j * 7+7<=o:=by have h1:(j+1) * 7=j * 7+7:=Nat.succ_mul _ _; have h2:o < off+j * 7\/off+(j+1) * 7<=o:=ho; omega
     (HO4.out o ho))
   have e:(mkStepS (x.take j) k++x.drop j).set j (emStep x[j] q)=mkStepS (x.take (j+1)) k++x.drop (j+1):=by
    rw [List.set_append_right _ _ (by rw [HML.out]; exact Nat.le_refl _),HML.out,Nat.sub_self,List.drop_eq_getElem_cons hjl,List.set_cons_zero,List.take_succ_eq_append_getElem hjl,mkStepS_snoc,<-HQ.out]
    simp
   rw [e] at hup
   refine ⟨j+1,by omega,by go_num,congrArg (Value.int .i64) ?_,hup,HU.out.trans ((HT4.out).mono ?_)⟩
   ·have h1:=HQ.out; have h2:=HEC.out; simp only [ecStep,ecPoint,ecRat,ecBigInt] at h2; omega
   ·intro z hz; rcases List.mem_cons.1 hz with rfl|hz; exact List.mem_cons_self; exact List.mem_cons_of_mem _ (flat_mem HFJ.out z hz)
  case measure=>simp [intOf]; omega
end Go.Proofs.YtffdhjnbppagjaaGreat
