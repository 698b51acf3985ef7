/-
  Texts of a proof, one behind another: Tb, Dw175, Dw174, Dw176, Tc, Td, Te, Tf, Dw64, Dw65, Dw67, Dw66, Dw68, Dw177, Dw178, Dw179, Dw132, Dw180, Dw170, Dw167, Dw141, Sp2, Dw82, Dw144, LawUpdate.
-/
import Derived.Test.YtcbionahcldlnaaGreatKUp5
set_option linter.all false
set_option maxRecDepth 100000
namespace Go.Proofs.YtcbionahcldlnaaGreat.DW
open Go.RowKit
def hdlM (k ver:Nat):List (List Int)->List AV
 | []=>[]
 | _ :: L=>.row k ver :: hdlM (k+1) ver L
def rowsM (e:TypeId) (k ver:Nat):List (List Int)->Mm
 | []=>[]
 | l :: L=>(k,.row e .int ver true l) :: rowsM e (k+1) ver L
theorem hdlM_len {ver:Nat}:∀ {L:List (List Int)} {k:Nat},(hdlM k ver L).length=L.length
 | [],_=>rfl
 | _ :: L,k=>by rw [hdlM,List.length_cons,List.length_cons,hdlM_len]
theorem hdlM_get {ver:Nat}:∀ {L:List (List Int)} {k i:Nat},i < L.length->(hdlM k ver L)[i]? = some (.row (i+k) ver)
 | [],_,_,h=>by cases h
 | _ :: L,k,0,_=>by rw [hdlM,Nat.zero_add]; rfl
 | _ :: L,k,i+1,h=>by
  rw [hdlM,List.getElem?_cons_succ,hdlM_get (by simpa using h),show i+(k+1)=i+1+k by omega]
theorem rowsM_look {e:TypeId} {ver:Nat}:∀ {L:List (List Int)} {k i:Nat} (h:i < L.length),look (rowsM e k ver L) (i+k)=some (.row e .int ver true L[i])
 | [],_,_,h=>by cases h
 | l :: L,k,0,_=>by rw [rowsM,Nat.zero_add]; exact look_self ..
 | l :: L,k,i+1,h=>by
  rw [rowsM,look_ne _ _ (by omega),show i+1+k=i+(k+1) by omega,rowsM_look (by simpa using h)]; rfl
theorem rowsM_none2 {e:TypeId} {ver:Nat}:∀ {L:List (List Int)} {k j:Nat},k+L.length<=j->look (rowsM e k ver L) j=none
 | [],_,_,_=>rfl
 | l :: L,k,j,h=>by rw [List.length_cons] at h; rw [rowsM,look_ne _ _ (by omega),rowsM_none2 (by omega)]
theorem rowsM_keys {e:TypeId} {ver:Nat}:∀ {L:List (List Int)} {k:Nat},(rowsM e k ver L).map (·.1)=List.range' k L.length
 | [],_=>rfl
 | l :: L,k=>by rw [rowsM,List.map_cons,rowsM_keys,List.length_cons,List.range'_succ]
theorem pinM_rowsM {β:Nat->Nat} {e:TypeId} {ver:Nat}:∀ {L:List (List Int)} {k:Nat},pinM β (rowsM e k ver L)=rowsM e k ver L
 | [],_=>rfl
 | l :: L,k=>by rw [rowsM,pinM,pinM_rowsM]; rfl
def tabM (x:Option Nat) (rc:List AV) (e:TypeId) (ver:Nat) (L:List (List Int)):Mm:=(0,.bx x rc) :: (1,.box (hdlM 2 ver L)) :: rowsM e 2 ver L
theorem tab_0 {x:Option Nat} {rc:List AV} {e:TypeId} {ver:Nat} {L:List (List Int)}:look (tabM x rc e ver L) 0=some (.bx x rc):=rfl
theorem tab_1 {x:Option Nat} {rc:List AV} {e:TypeId} {ver:Nat} {L:List (List Int)}:look (tabM x rc e ver L) 1=some (.box (hdlM 2 ver L)):=rfl
theorem tab_r {x:Option Nat} {rc:List AV} {e:TypeId} {ver:Nat} {L:List (List Int)} {i:Nat} (h:i < L.length):look (tabM x rc e ver L) (i+2)=some (.row e .int ver true L[i]):=by
 unfold tabM; rw [look_ne _ _ (by omega),look_ne _ _ (by omega),rowsM_look h]
theorem tab_none {x:Option Nat} {rc:List AV} {e:TypeId} {ver:Nat} {L:List (List Int)} {j:Nat} (h:L.length+2<=j):look (tabM x rc e ver L) j=none:=by
 unfold tabM; rw [look_ne _ _ (by omega),look_ne _ _ (by omega),rowsM_none2 (by omega)]
theorem tab_keys {x:Option Nat} {rc:List AV} {e:TypeId} {ver:Nat} {L:List (List Int)}:(tabM x rc e ver L).map (·.1)=List.range' 0 (L.length+2):=by
 unfold tabM
 rw [List.map_cons,List.map_cons,rowsM_keys,List.range'_succ,List.range'_succ]
theorem pin_0 {β:Nat->Nat} {x:Option Nat} {rc:List AV} {e:TypeId} {ver:Nat} {L:List (List Int)}:look (pinM β (tabM x rc e ver L)) 0=some (.bx (some (x.getD (β 0))) rc):=by cases x<;>rfl
theorem pin_1 {β:Nat->Nat} {x:Option Nat} {rc:List AV} {e:TypeId} {ver:Nat} {L:List (List Int)}:look (pinM β (tabM x rc e ver L)) 1=some (.bx (some (β 1)) (hdlM 2 ver L)):=rfl
theorem pin_r {β:Nat->Nat} {x:Option Nat} {rc:List AV} {e:TypeId} {ver:Nat} {L:List (List Int)} {i:Nat} (h:i < L.length):look (pinM β (tabM x rc e ver L)) (i+2)=some (.row e .int ver true L[i]):=by
 unfold tabM
 rw [pinM,pinM,pinM_rowsM,look_ne _ _ (by omega),look_ne _ _ (by omega),rowsM_look h]
theorem pin_keys {β:Nat->Nat}:∀ {M:Mm},(pinM β M).map (·.1)=M.map (·.1)
 | []=>rfl
 | p :: M=>by rw [pinM,List.map_cons,List.map_cons,pin_keys]
def selfC (n:Nat):AV->Prop
 | .sc _=>True
 | .sl _ _=>True
 | .row k m=>k=1/\m=n
 | _=>False
theorem wkM_rows {σm τm:Nat->Option Blk} {ρ:Nat->Nat} {rng:List Nat} {e:TypeId} {ver:Nat}:∀ {L:List (List Int)} {k:Nat},(∀ i (h:i < L.length),∃ v,σm (ρ (i+k))=some (.row e .int v true L[i]))->wkM σm τm ρ rng (rowsM e k ver L)
 | [],_,_=>trivial
 | l :: L,k,h=>by
  refine ⟨?_,wkM_rows fun i hi=>?_⟩
  ·obtain ⟨v,hv⟩:=h 0 (by simp)
   rw [Nat.zero_add] at hv
   unfold wkB
   rw [hv]
   exact ⟨rfl,rfl,fun _=>rfl⟩
  ·obtain ⟨v,hv⟩:=h (i+1) (by simpa using hi)
   exact ⟨v,by rw [show i+(k+1)=i+1+k by omega,hv]; rfl⟩
theorem all2_hdl {σm τm:Nat->Option Blk} {rng:List Nat} {e:TypeId} {ver:Nat} {cs:List AV} {L:List (List Int)} (hl:cs.length=L.length)
  (hc:∀ i (h:i < L.length),∃ v,cs[i]? = some (.row (i+2) v)/\σm (i+2)=some (.row e .int v true L[i])) (ht:∀ i (h:i < L.length),τm (i+2)=some (.row e .int ver true L[i])):All2 (LeC σm τm id rng) cs (hdlM 2 ver L):=by
 have key:∀ {cs hs:List AV},cs.length=hs.length->(∀ i (h:i < hs.length),∃ u,cs[i]? = some u/\LeC σm τm id rng u hs[i])->All2 (LeC σm τm id rng) cs hs:=by
  intro cs
  induction cs with
  | nil=>intro hs h _; cases hs with|nil=>trivial|cons a b=>cases h
  | cons a cs ih =>
   intro hs h hk
   cases hs with
   | nil=>cases h
   | cons b hs =>
    refine ⟨?_,ih (by simpa using h) fun i hi=>?_⟩
    ·obtain ⟨u,hu,hle⟩:=hk 0 (by simp)
     injection hu with hu; subst hu; exact hle
    ·exact hk (i+1) (by simpa using hi)
 refine key (by rw [hl,hdlM_len]) fun i hi=>?_
 rw [hdlM_len] at hi
 obtain ⟨v,h1,h2⟩:=hc i hi
 refine ⟨_,h1,?_⟩
 have e1:=hdlM_get (ver:=ver) (k:=2) hi
 rw [(List.getElem?_eq_some_iff.1 e1).2]
 unfold LeC
 simp only [ht i hi,h2]
 exact ⟨rfl,trivial,trivial⟩
theorem wk_tab {σ:St} {β:Nat->Nat} {x:Option Nat} {rc:List AV} {e:TypeId} {ver n:Nat} {cs:List AV} {L:List (List Int)} (hrc:∀ v ∈ rc,selfC n v)
  (h0:look σ.mem 0=some (.bx (some (x.getD (β 0))) rc)) (h1:look σ.mem 1=some (.bx (some (β 1)) cs)) (hl:cs.length=L.length)
  (hc:∀ i (h:i < L.length),∃ v,cs[i]? = some (.row (i+2) v)/\look σ.mem (i+2)=some (.row e .int v true L[i])):Wk σ ⟨[],pinM β (tabM x rc e ver L)⟩:=by
 refine ⟨σ,.refl σ,[],?_,trivial,?_⟩
 ·have:((pinM β (tabM x rc e ver L)).map fun p=>ren [] p.1)=List.range' 0 (L.length+2):=by
   rw [show (fun p:Nat × Blk=>ren [] p.1)=(fun p=>p.1) from rfl,pin_keys,tab_keys]
  rw [this]
  exact List.nodup_range'
 ·have hρ:ren []=id:=rfl
  rw [hρ]
  generalize hrng:(pinM β (tabM x rc e ver L)).map _=rng
  have hself:All2 (LeC (look σ.mem) (look (pinM β (tabM x rc e ver L))) id rng) rc rc:=by
   have:∀ {cs:List AV},(∀ v ∈ cs,selfC n v)->All2 (LeC (look σ.mem) (look (pinM β (tabM x rc e ver L))) id rng) cs cs:=by
    intro cs
    induction cs with
    | nil=>intro _; trivial
    | cons v cs ih =>
     intro h
     refine ⟨?_,ih fun u hu=>h u (List.mem_cons_of_mem _ hu)⟩
     have hv:=h v List.mem_cons_self
     cases v with
     | sc x=>rfl
     | sl t l=>exact .inl ⟨rfl,fun k hk=>by cases hk⟩
     | row k m =>
      obtain ⟨rfl,rfl⟩:=hv
      unfold LeC
      simp only [pin_1]
      exact ⟨rfl,trivial⟩
     | _=>exact hv.elim
   exact this hrc
  refine ⟨?_,?_,?_⟩
  ·show wkB _ _ _ _ 0 (pinB β 0 (.bx x rc))
   have hp:pinB β 0 (.bx x rc)=.bx (some (x.getD (β 0))) rc:=by cases x<;>rfl
   rw [hp]
   unfold wkB
   show match look σ.mem 0 with|some (.bx x0 cs0)=>x0=some (x.getD (β 0))/\All2 _ cs0 rc|_=>False
   rw [h0]
   exact ⟨rfl,hself⟩
  ·show wkB _ _ _ _ 1 (.bx (some (β 1)) (hdlM 2 ver L))
   unfold wkB
   show match look σ.mem 1 with|some (.bx x0 cs0)=>x0=some (β 1)/\All2 _ cs0 (hdlM 2 ver L)|_=>False
   rw [h1]
   exact ⟨rfl,all2_hdl hl hc fun i hi=>pin_r hi⟩
  ·show wkM _ _ _ _ (pinM β (rowsM e 2 ver L))
   rw [pinM_rowsM]
   exact wkM_rows fun i hi=>⟨_,(hc i hi).choose_spec.2⟩
theorem set_tds {α:Type} {X:List α} {j:Nat} {v:α} (h:j < X.length):X.take j++[v]++X.drop (j+1)=X.set j v:=by
 rw [List.set_eq_take_append_cons_drop,if_pos h,List.append_assoc]; rfl
def rn6 (a b q:Nat):Nat->Nat
 | 0=>0
 | 1=>1
 | 2=>a
 | 3=>b
 | 4=>q
 | 5=>q+1
 | n=>n
theorem rn6_inj {a b q:Nat} (h1:2<=a) (h2:a < q) (h3:2<=b) (h4:b < q) (h5:a ≠ b):∀ x y,x < 6->y < 6->rn6 a b q x=rn6 a b q y->x=y:=by
 have key:∀ x,x < 6->(x=0/\rn6 a b q x=0)\/(x=1/\rn6 a b q x=1)\/(x=2/\rn6 a b q x=a)\/(x=3/\rn6 a b q x=b)\/(x=4/\rn6 a b q x=q)\/(x=5/\rn6 a b q x=q+1):=by
  intro x hx
  match x,hx with
  | 0,_=>exact .inl ⟨rfl,rfl⟩
  | 1,_=>exact .inr (.inl ⟨rfl,rfl⟩)
  | 2,_=>exact .inr (.inr (.inl ⟨rfl,rfl⟩))
  | 3,_=>exact .inr (.inr (.inr (.inl ⟨rfl,rfl⟩)))
  | 4,_=>exact .inr (.inr (.inr (.inr (.inl ⟨rfl,rfl⟩))))
  | 5,_=>exact .inr (.inr (.inr (.inr (.inr ⟨rfl,rfl⟩))))
 intro x y hx hy h
 rcases key x hx with ⟨e,k⟩|⟨e,k⟩|⟨e,k⟩|⟨e,k⟩|⟨e,k⟩|⟨e,k⟩<;>rcases key y hy with ⟨e2,k2⟩|⟨e2,k2⟩|⟨e2,k2⟩|⟨e2,k2⟩|⟨e2,k2⟩|⟨e2,k2⟩<;>omega
theorem inter_ren {f:Nat->Nat} {N:Nat} (hf:∀ x y,x < N->y < N->f x=f y->x=y) {a b:List Nat} (ha:a.all (fun x=>decide (x < N))=true) (hb:b.all (fun x=>decide (x < N))=true):inter (a.map f) (b.map f)=inter a b:=by
 unfold inter
 rw [List.any_map]
 apply Bool.eq_iff_iff.2
 simp only [List.any_eq_true,Function.comp,List.contains_iff_mem]
 have ha:=List.all_eq_true.1 ha
 have hb:=List.all_eq_true.1 hb
 constructor
 ·rintro ⟨x,hx,h⟩
  obtain ⟨y,hy,e⟩:=List.mem_map.1 h
  have:=hf y x (of_decide_eq_true (hb y hy)) (of_decide_eq_true (ha x hx)) e
  subst this
  exact ⟨y,hx,hy⟩
 ·rintro ⟨x,hx,h⟩
  exact ⟨x,hx,List.mem_map.2 ⟨x,h,rfl⟩⟩
theorem okTr_ren (f:Nat->Nat) (N:Nat) (hf:∀ x y,x < N->y < N->f x=f y->x=y) {ops:List Oper} (tr:Tr) (hN:(tr.all fun t=>t.1.all (fun x=>decide (x < N)) && t.2.all (fun x=>decide (x < N)))=true) (h:okTr ops tr=true):okTr ops (tr.map fun t=>(t.1.map f,t.2.map f))=true:=by
 unfold okTr at h ⊢
 rw [Bool.and_eq_true] at h ⊢
 refine ⟨h.1,?_⟩
 have hz:ops.zip (tr.map fun t=>(t.1.map f,t.2.map f))=(ops.zip tr).map fun p=>(p.1,(p.2.1.map f,p.2.2.map f)):=by
  rw [List.zip_map_right]; rfl
 have hN:=List.all_eq_true.1 hN
 have hmem:∀ p ∈ (ops.zip tr).zipIdx,(p.1.2.1.all (fun x=>decide (x < N))=true)/\(p.1.2.2.all (fun x=>decide (x < N))=true):=by
  rintro ⟨⟨o,t⟩,k⟩ hp
  have h1:=(List.of_mem_zip (List.fst_mem_of_mem_zipIdx hp)).2
  have:=hN t h1
  rwa [Bool.and_eq_true] at this
 rw [hz,List.zipIdx_map]
 rw [List.all_map,List.all_eq_true]
 intro y hy
 have hy2:=List.all_eq_true.1 h.2 y hy
 show List.all _ _=true
 rw [List.all_map,List.all_eq_true]
 intro x hx
 have hx2:=List.all_eq_true.1 hy2 x hx
 obtain ⟨a1,a2⟩:=hmem x hx
 obtain ⟨b1,b2⟩:=hmem y hy
 have e:confB ops x.1.1 y.1.1 (x.1.2.1.map f,x.1.2.2.map f) (y.1.2.1.map f,y.1.2.2.map f)=confB ops x.1.1 y.1.1 x.1.2 y.1.2:=by
  unfold confB
  dsimp only
  rw [inter_ren hf a1 b2,inter_ren hf b1 a2]
 show (!decide (x.2 < y.2) || !confB ops x.1.1 y.1.1 (x.1.2.1.map f,x.1.2.2.map f) (y.1.2.1.map f,y.1.2.2.map f) || ((masks ops).getD y.2 0).testBit x.2)=true
 rw [e]
 exact hx2
theorem rowsM_fresh {e:TypeId} {ver:Nat}:∀ {L:List (List Int)} {k:Nat},fresh (rowsM e k ver L)=if L.length=0 then 0 else k+L.length
 | [],_=>rfl
 | l :: L,k=>by
  show max (k+1) (fresh (rowsM e (k+1) ver L))=_
  rw [rowsM_fresh,List.length_cons]
  split<;>split<;>omega
theorem pin_fresh {β:Nat->Nat}:∀ {M:Mm},fresh (pinM β M)=fresh M
 | []=>rfl
 | p :: M=>by
  show max (p.1+1) (fresh (pinM β M))=max (p.1+1) (fresh M)
  rw [pin_fresh]
theorem tab_fresh {x:Option Nat} {rc:List AV} {e:TypeId} {ver:Nat} {L:List (List Int)}:fresh (tabM x rc e ver L)=L.length+2:=by
 show max (0+1) (max (1+1) (fresh (rowsM e 2 ver L)))=_
 rw [rowsM_fresh]
 split<;>omega
@[go_sem] def rdc (s:DSn) (S:List DSl) (op:List Int) (n:Nat):List AV:=[.sc (.int .i64 s.1.1),.sc (.int .i64 s.1.2),.sc (.int .i64 s.2.1.1),.sc (.int .i64 s.2.1.2),.sl tVec s.2.2.1,.sl (.slice tVec) s.2.2.2.1,.sl tVec s.2.2.2.2,.sl tSlice S,.sl .int op,.row 1 n]
theorem rdc_self {s:DSn} {S:List DSl} {op:List Int} {n:Nat}:∀ v ∈ rdc s S op n,selfC n v:=by
 intro v hv
 simp only [rdc,List.mem_cons,List.mem_nil_iff,or_false] at hv
 rcases hv with rfl|rfl|rfl|rfl|rfl|rfl|rfl|rfl|rfl|rfl<;>first|trivial|exact ⟨rfl,rfl⟩
def lnkN (L:List (List Int)) (i j:Nat):List (List Int):=(L.set i (nth (t:=tInts) L i++[(j:Int)])).set j (nth (t:=tInts) L j++[(i:Int)])
set_option maxHeartbeats 4000000 in
theorem linkT_fn (x:Option Nat) (s:DSn) (S:List DSl) (op:List Int) (L:List (List Int)) (i j:Nat) (hi:i < L.length) (hj:j < L.length) (hij:i ≠ j) (hn:∀ l ∈ L,l.length<=1000000) (hL:L.length<=1000000000):FnA Tryz.prog 53 [.ptr 0 0,.sc (.int .i64 (i:Int)),.sc (.int .i64 (j:Int))] (tabM x (rdc s S op L.length) 3 0 L) (.tup []) (tabM x (rdc s S op L.length) 3 1 (lnkN L i j)):=by
 refine fnA_enter tabOK mixes Tryz.func53 rfl rfl _ Tryz.ntmps53 _ Tryz.results53 (by simp) (by first|exact .inl rfl|exact .inr ⟨_,rfl⟩) fun β=>?_
 generalize hM:pinM β (tabM x (rdc s S op L.length) 3 0 L)=M
 have hq:fresh M=L.length+2:=by rw [<-hM,pin_fresh,tab_fresh]
 have m0:look M 0=some (.bx (some (x.getD (β 0))) (rdc s S op L.length)):=by rw [<-hM]; exact pin_0
 have m1:look M 1=some (.bx (some (β 1)) (hdlM 2 0 L)):=by rw [<-hM]; exact pin_1
 have mi:look M (i+2)=some (.row 3 .int 0 true (nth (t:=tInts) L i)):=by rw [<-hM,pin_r hi,nth_lt (t:=tInts) hi]
 have mj:look M (j+2)=some (.row 3 .int 0 true (nth (t:=tInts) L j)):=by rw [<-hM,pin_r hj,nth_lt (t:=tInts) hj]
 have ci:(hdlM 2 0 L).getD i .junk=.row (i+2) 0:=by rw [List.getD_eq_getElem?_getD,hdlM_get hi]; rfl
 have cj:(hdlM 2 0 L).getD j .junk=.row (j+2) 0:=by rw [List.getD_eq_getElem?_getD,hdlM_get hj]; rfl
 have cl:(hdlM 2 0 L).length=L.length:=hdlM_len
 have ni:=hn _ (nth_in (t:=tInts) hi)
 have nj:=hn _ (nth_in (t:=tInts) hj)
 have gi:decide (0<=(i:Int))=true:=decide_eq_true (by omega)
 have gj:decide (0<=(j:Int))=true:=decide_eq_true (by omega)
 have q1:i+2+1<=L.length+2:=by omega
 have q2:j+2+1<=L.length+2:=by omega
 have e1:(i+2 == 0)=false:=by simp
 have e2:(j+2 == 0)=false:=by simp
 have e3:(i+2 == 1)=false:=by simp
 have e4:(j+2 == 1)=false:=by simp
 have e5:(0 == i+2)=false:=by simp
 have e6:(0 == j+2)=false:=by simp
 have e7:(1 == i+2)=false:=by simp
 have e8:(1 == j+2)=false:=by simp
 have e9:(i+2 == j+2)=false:=by simp; omega
 have f1:(j+2 == i+2)=false:=by simp; omega
 have f2:(0 == L.length+2)=false:=by simp
 have f3:(1 == L.length+2)=false:=by simp
 have f4:(i+2 == L.length+2)=false:=by simp; omega
 have f5:(j+2 == L.length+2)=false:=by simp; omega
 have f6:(0 == L.length+2+1)=false:=by simp
 have f7:(1 == L.length+2+1)=false:=by simp
 have f8:(i+2 == L.length+2+1)=false:=by simp; omega
 have f9:(j+2 == L.length+2+1)=false:=by simp; omega
 have q0:¬ (L.length+2+1<=L.length+2):=by omega
 have q3:i+2+1<=L.length+2+1:=by omega
 have q4:j+2+1<=L.length+2+1:=by omega
 have q5:¬ (L.length+2+1+1<=L.length+2+1):=by omega
 have q6:(i+2=L.length+2)=False:=by simp; omega
 have q7:(j+2=L.length+2)=False:=by simp; omega
 have q8:(i+2=L.length+2+1)=False:=by simp; omega
 have q9:(j+2=L.length+2+1)=False:=by simp; omega
 generalize hli:nth (t:=tInts) L i=li at *
 generalize hlj:nth (t:=tInts) L j=lj at *
 generalize hc:hdlM 2 0 L=cs at *
 generalize hka:i+2=ka at *
 generalize hkb:j+2=kb at *
 generalize hqq:L.length+2=q at *
 try simp (maxSteps:=9^9) only[go_sem,m0,m1,gi,gj,mi,mj,ci,cj,cl,hq,e1,e2,e3,e4,e5,e6,e7,e8,e9,f1,f2,f3,f4,f5,f6,f7,f8,f9,q1,q2,q0,q3,q4,q5,q6,q7,q8,q9,if_true,if_false,Nat.mul_one,List.length_take,List.length_drop]
 repeat (refine And.intro (by omega) ?_)
 refine And.intro (okTr_ren (rn6 ka kb q) 6 (rn6_inj (by omega) (by omega) (by omega) (by omega) (by omega)) [([],[]),([],[]),([],[]),([],[0]),([],[]),([],[]),([],[]),([],[]),([],[0]),([],[]),([],[]),([],[]),([],[]),([],[0]),([],[]),([],[1]),([],[1]),([],[]),([4],[4]),([2],[2,2,4]),([],[]),([],[]),([],[]),([],[0]),([],[]),([],[1]),([],[1]),([],[]),([5],[5]),([3],[3,3,5]),([],[1]),([1],[1,1]),([],[1]),([1],[1,1])] rfl (by kernel_rfl)) ?_
 subst hka hkb hqq hc hli hlj
 have hl:(lnkN L i j).length=L.length:=by unfold lnkN; rw [List.length_set,List.length_set]
 refine wk_tab (rdc_self (n:=L.length)) (cs:=((hdlM 2 0 L).set i (.row (i+2) 1)).set j (.row (j+2) 1)) ?_ ?_ ?_ ?_
 ·show look (_ :: _ :: _ :: _ :: _ :: _ :: M) 0=_
  rw [look_ne _ _ (by omega),look_ne _ _ (by omega),look_ne _ _ (by omega),look_ne _ _ (by omega),look_ne _ _ (by omega),look_ne _ _ (by omega)]
  exact m0
 ·show look (_ :: _ :: _ :: _ :: _ :: _ :: M) 1=_
  rw [look_self,set_tds (X:=hdlM 2 0 L) (j:=i) (by rw [hdlM_len]; exact hi),set_tds (by rw [List.length_set,hdlM_len]; exact hj)]
 ·rw [List.length_set,List.length_set,hdlM_len,hl]
 ·intro t ht
  have htL:t < L.length:=by rw [<-hl]; exact ht
  have hg:((lnkN L i j)[t]'ht)=if j=t then nth (t:=tInts) L j++[(i:Int)] else if i=t then nth (t:=tInts) L i++[(j:Int)] else L[t]:=by
   have:(lnkN L i j)[t]'ht=((L.set i (nth (t:=tInts) L i++[(j:Int)])).set j (nth (t:=tInts) L j++[(i:Int)]))[t]'(by rw [List.length_set,List.length_set]; exact htL):=rfl
   rw [this,List.getElem_set,List.getElem_set]
  rw [hg]
  by_cases c1:j=t
  ·subst c1
   refine ⟨1,?_,?_⟩
   ·rw [List.getElem?_set,if_pos rfl,if_pos (by rw [List.length_set,hdlM_len]; exact hj)]
   ·show look (_ :: _ :: _ :: _ :: _ :: _ :: M) (j+2)=_
    rw [if_pos rfl,look_ne _ _ (by omega),look_ne _ _ (by omega),look_self]
  ·rw [if_neg c1]
   by_cases c2:i=t
   ·subst c2
    refine ⟨1,?_,?_⟩
    ·rw [List.getElem?_set,if_neg c1,List.getElem?_set,if_pos rfl,if_pos (by rw [hdlM_len]; exact hi)]
    ·show look (_ :: _ :: _ :: _ :: _ :: _ :: M) (i+2)=_
     rw [if_pos rfl,look_ne _ _ (by omega),look_ne _ _ (by omega),look_ne _ _ (by omega),look_ne _ _ (by omega),look_self]
   ·rw [if_neg c2]
    refine ⟨0,?_,?_⟩
    ·rw [List.getElem?_set,if_neg c1,List.getElem?_set,if_neg c2,hdlM_get htL]
    ·show look (_ :: _ :: _ :: _ :: _ :: _ :: M) (t+2)=_
     rw [look_ne _ _ (by omega),look_ne _ _ (by omega),look_ne _ _ (by omega),look_ne _ _ (by omega),look_ne _ _ (by omega),look_ne _ _ (by omega),<-hM]
     exact pin_r htL
theorem linkF_fn (x:Option Nat) (s:DSn) (S:List DSl) (op:List Int) (L:List (List Int)) (a b:Int) (h:a < 0\/b < 0):FnA Tryz.prog 53 [.ptr 0 0,.sc (.int .i64 a),.sc (.int .i64 b)] (tabM x (rdc s S op L.length) 3 0 L) (.tup []) (tabM x (rdc s S op L.length) 3 1 L):=by
 refine fnA_enter tabOK mixes Tryz.func53 rfl rfl _ Tryz.ntmps53 _ Tryz.results53 (by simp) (by first|exact .inl rfl|exact .inr ⟨_,rfl⟩) fun β=>?_
 have fin:∀ t,Wk ⟨t,pinM β (tabM x (rdc s S op L.length) 3 0 L)⟩ ⟨[],pinM β (tabM x (rdc s S op L.length) 3 1 L)⟩:=fun t=>wk_tab (rdc_self (n:=L.length)) pin_0 pin_1 hdlM_len fun i hi=>⟨0,hdlM_get hi,pin_r hi⟩
 generalize pinM β (tabM x (rdc s S op L.length) 3 0 L)=M at *
 generalize pinM β (tabM x (rdc s S op L.length) 3 1 L)=M' at *
 by_cases g:a < 0
 ·have ga:decide (0<=a)=false:=decide_eq_false (by omega)
  try simp (maxSteps:=9^9) only[go_sem,ga]
  exact fin _
 ·have ga:decide (0<=a)=true:=decide_eq_true (by omega)
  have gb:decide (0<=b)=false:=decide_eq_false (by omega)
  try simp (maxSteps:=9^9) only[go_sem,ga,gb]
  exact fin _
theorem ni_set {o:List Int} {i j:Nat} {x:Int} (hi:i < o.length):ni (o.set i x) j=if i=j then x else ni o j:=by
 show (o.set i x).getD j 0=if i=j then x else o.getD j 0
 rw [List.getD_eq_getElem?_getD,List.getElem?_set,List.getD_eq_getElem?_getD]
 by_cases e:i=j
 ·subst e; simp [hi]
 ·simp [e]
def Gn (nx:Int) (o o':List Int):Prop:=o'.length=o.length/\∀ i,ni o' i=ni o i\/(ni o i < 0/\ni o' i=nx)
variable {nx:Int} {ds:List DV} {o:List Int}
theorem Gn.refl (nx:Int) (o:List Int):Gn nx o o:=⟨rfl,fun _=>.inl rfl⟩
theorem Gn.trans {a b c:List Int} (h:Gn nx a b) (k:Gn nx b c):Gn nx a c:=⟨k.1.trans h.1,fun i=>by
 rcases k.2 i with h1|⟨h1,h2⟩<;>rcases h.2 i with h3|⟨h3,h4⟩
 ·exact .inl (h1.trans h3)
 ·exact .inr ⟨h3,h1.trans h4⟩
 ·exact .inr ⟨by omega,h2⟩
 ·exact .inr ⟨h3,h2⟩⟩
theorem Gn.set {i:Nat} (hi:i < o.length) (h:ni o i < 0):Gn nx o (o.set i nx):=⟨List.length_set,fun j=>by
 rw [ni_set hi]
 split
 ·rename_i e; subst e; exact .inr ⟨h,rfl⟩
 ·exact .inl rfl⟩
theorem ptE_gn {d e:DV} {s:List Int × Bool} (he:e.1.toNat < s.1.length):Gn nx s.1 (ptE nx d s e).1:=by
 unfold ptE
 split
 ·rename_i h; exact Gn.set he h.2
 ·exact Gn.refl _ _
theorem ptJ_gn {d:DV} {s:List Int × Bool} (hd:∀ e ∈ ds,e.1.toNat < s.1.length):∀ j,j<=ds.length->Gn nx s.1 (ptJ nx d ds s j).1
 | 0,_=>Gn.refl _ _
 | j+1,hj=>by
  have h:=ptJ_gn (d:=d) hd j (by omega)
  exact h.trans (ptE_gn (by rw [h.1]; exact hd _ (nth_mem (i:=j) (by omega))))
theorem ptI_gn (hd:∀ e ∈ ds,e.1.toNat < o.length):∀ i,i<=ds.length->Gn nx o (ptI nx ds o i).1
 | 0,_=>Gn.refl _ _
 | i+1,hi=>by
  have h:=ptI_gn hd i (by omega)
  show Gn nx o (ptD nx ds (ptI nx ds o i) (nth (t:=tVec) ds i)).1
  unfold ptD
  split
  ·exact h.trans (ptJ_gn (by rw [h.1]; exact hd) _ (Nat.le_refl _))
  ·exact h
theorem ptW_gn (hd:∀ e ∈ ds,e.1.toNat < o.length) (hn:0<=nx):Gn nx o (ptW nx ds o):=by
 induction hN:negs o using Nat.strongRecOn generalizing o with
 | _ N ih =>
  have hR:=ptR_dn hd hn
  have hg:Gn nx o (ptR nx ds o).1:=ptI_gn hd _ (Nat.le_refl _)
  cases hb:(ptR nx ds o).2
  ·rw [ptW_f hb]; exact hg
  ·rw [ptW_t hd hn hb]
   exact hg.trans (ih _ (hN ▸ hR.2.2 hb) (by rw [hR.1]; exact hd) rfl)
structure Gi (o:List Int) (next:Int):Prop where
 rng:∀ i < o.length,ni o i=-1\/(0<=ni o i/\ni o i < next)
 all:∀ j,0<=j->j < next->∃ i < o.length,ni o i=j
theorem poI_gi {n:Nat} (hd:∀ e ∈ ds,e.1.toNat < n):∀ k,k<=n->Gi (poI n ds k).1 (poI n ds k).2
 | 0,_=>by
  refine ⟨fun i hi=>.inl ?_,fun j h1 h2=>?_⟩
  ·have hi:i < (List.replicate n (-1:Int)).length:=hi
   show (List.replicate n (-1:Int)).getD i 0=-1
   rw [List.length_replicate] at hi
   rw [List.getD_eq_getElem?_getD,List.getElem?_replicate,if_pos hi]; rfl
  ·have h2:j < 0:=h2
   omega
 | k+1,hk=>by
  obtain ⟨h1,h2⟩:=poI_gi hd k (by omega)
  obtain ⟨l1,l2,_⟩:=poI_ok hd k
  show Gi (poS ds (poI n ds k) k).1 (poS ds (poI n ds k) k).2
  unfold poS
  generalize poI n ds k=s at *
  obtain ⟨o,nx⟩:=s
  dsimp only at *
  split
  ·exact ⟨h1,h2⟩
  ·rename_i hneg
   have hko:k < o.length:=by omega
   have g1:Gn nx o (o.set k nx):=Gn.set hko (by omega)
   have g2:Gn nx (o.set k nx) (ptW nx ds (o.set k nx)):=ptW_gn (by rw [List.length_set,l1]; exact hd) l2
   have g:=g1.trans g2
   refine ⟨fun i hi=>?_,fun j hj1 hj2=>?_⟩
   ·dsimp only
    rcases g.2 i with e|⟨_,e⟩
    ·rcases h1 i (by rw [<-g.1]; exact hi) with e2|⟨e2,e3⟩
     ·exact .inl (e.trans e2)
     ·exact .inr (by rw [e]; omega)
    ·exact .inr (by rw [e]; omega)
   ·dsimp only at hj2 ⊢
    by_cases hj:j < nx
    ·obtain ⟨i,hi,e⟩:=h2 j hj1 hj
     refine ⟨i,by rw [g.1]; exact hi,?_⟩
     rcases g.2 i with e2|⟨e2,_⟩
     ·rw [e2]; exact e
     ·omega
    ·obtain rfl:j=nx:=by omega
     refine ⟨k,by rw [g.1]; exact hko,?_⟩
     have e1:ni (o.set k j) k=j:=by rw [ni_set hko,if_pos rfl]
     rcases g2.2 k with e2|⟨_,e2⟩
     ·rw [e2]; exact e1
     ·exact e2
theorem pigeonI:∀ (m:Nat) (l:List Int),(∀ j:Nat,j < m->(j:Int) ∈ l)->m<=l.length
 | 0,_,_=>Nat.zero_le _
 | m+1,l,h=>by
  have hm:=h m (by omega)
  have h1:=pigeonI m (l.erase (m:Int)) fun j hj=>(List.mem_erase_of_ne (by omega)).2 (h j (by omega))
  rw [List.length_erase_of_mem hm] at h1
  have:=List.length_pos_of_mem hm
  omega
theorem mem_compact {l:List Int} {x:Int} (h:x ∈ l):x ∈ Lib.compact l:=by
 obtain ⟨i,hi,rfl⟩:=List.getElem_of_mem h
 unfold Lib.compact Lib.compactUpTo
 induction i with
 | zero=>
  refine List.mem_map.2 ⟨0,List.mem_filter.2 ⟨List.mem_range.2 hi,Lib.keeps_lt_one _ 0 (by omega)⟩,?_⟩
  rw [getElem!_pos l.toArray 0 (by simpa using hi)]; rfl
 | succ i ih =>
  by_cases hk:l.toArray[i+1]! = l.toArray[i+1 - 1]!
  ·have:=ih (by omega) (List.getElem_mem _)
   rw [getElem!_pos l.toArray (i+1) (by simpa using hi),getElem!_pos l.toArray (i+1 - 1) (by simp; omega)] at hk
   have hk:l[i+1]=l[i]:=hk
   rw [hk]; exact this
  ·refine List.mem_map.2 ⟨i+1,List.mem_filter.2 ⟨List.mem_range.2 hi,Lib.keeps_pos hk⟩,?_⟩
   rw [getElem!_pos l.toArray (i+1) (by simpa using hi)]; rfl
theorem Gi.lt {o:List Int} {nx:Int} (h:Gi o nx):∀ v ∈ o,v=-1\/(0<=v/\v < (cntD o:Int)):=by
 intro v hv
 obtain ⟨i,hi,rfl⟩:=List.getElem_of_mem hv
 have e:ni o i=o[i]:=by show o.getD i 0=_; rw [List.getD_eq_getElem?_getD,List.getElem?_eq_getElem hi]; rfl
 rcases h.rng i hi with h1|⟨h1,h2⟩
 ·exact .inl (e.symm.trans h1)
 ·refine .inr ⟨by omega,?_⟩
  have hp:=pigeonI nx.toNat (Lib.compact (o.mergeSort leZ)) fun j hj=>mem_compact ((List.mergeSort_perm _ _).mem_iff.2 (by
   obtain ⟨q,hq,eq⟩:=h.all j (by omega) (by omega)
   rw [<-eq]
   show o.getD q 0 ∈ o
   rw [List.getD_eq_getElem?_getD,List.getElem?_eq_getElem hq]
   exact List.getElem_mem hq))
  have:cntD o=(Lib.compact (o.mergeSort leZ)).length:=rfl
  omega
theorem pts_lt {n:Nat} (hd:∀ e ∈ ds,e.1.toNat < n):∀ v ∈ ptsD n ds,v=-1\/(0<=v/\v < (cntD (ptsD n ds):Int)):=(poI_gi hd n (Nat.le_refl _)).lt
def lnkO (L:List (List Int)) (a b:Int):List (List Int):=if 0<=a/\0<=b then lnkN L a.toNat b.toNat else L
theorem lnkO_len {L:List (List Int)} {a b:Int}:(lnkO L a b).length=L.length:=by
 unfold lnkO lnkN
 split
 ·rw [List.length_set,List.length_set]
 ·rfl
theorem lnkN_row {L:List (List Int)} {i j m:Nat} (hi:i < L.length) (hj:j < L.length) (h:∀ l ∈ L,l.length<=m):∀ l ∈ lnkN L i j,l.length<=m+1:=by
 intro l hl
 unfold lnkN at hl
 rcases List.mem_or_eq_of_mem_set hl with hl|rfl
 ·rcases List.mem_or_eq_of_mem_set hl with hl|rfl
  ·exact Nat.le_succ_of_le (h l hl)
  ·have:=h _ (nth_in (t:=tInts) hi)
   rw [List.length_append,List.length_singleton]; omega
 ·have:=h _ (nth_in (t:=tInts) hj)
  rw [List.length_append,List.length_singleton]; omega
structure SlP (S:List DSl):Prop where
 four:S.length=4
 len:∀ x ∈ S,x.2.2.2.2.2.2.2.length<=1048576
 num:∀ x ∈ S,∀ v ∈ x.2.2.2.2.2.2.2,v=-1\/(0<=v/\v < (cntD x.2.2.2.2.2.2.2:Int))
theorem ptX_rng {S:List DSl} (hS:SlP S) {h:Nat} (hh:h < 4) (p:DP):ptX (nth (t:=tSlice) S h) p=-1\/(0<=ptX (nth (t:=tSlice) S h) p/\ptX (nth (t:=tSlice) S h) p < (cntD (nth (t:=tSlice) S h).2.2.2.2.2.2.2:Int)):=by
 have hx:=nth_in (t:=tSlice) (l:=S) (i:=h) (by rw [hS.four]; exact hh)
 unfold ptX
 split
 ·rename_i hc
  exact hS.num _ hx _ (nth_in (t:=.int) (by omega))
 ·exact .inl rfl
theorem ptX_abs {S:List DSl} (hS:SlP S) {h:Nat} (hh:h < 4) (p:DP):(ptX (nth (t:=tSlice) S h) p).natAbs<=1048576:=by
 have hx:=hS.len _ (nth_in (t:=tSlice) (l:=S) (i:=h) (by rw [hS.four]; exact hh))
 have hc:=cntD_le (nth (t:=tSlice) S h).2.2.2.2.2.2.2
 rcases ptX_rng hS hh p with e|⟨e1,e2⟩<;>omega
theorem frN_mono (S:List DSl):∀ (d k:Nat),frN S k<=frN S (k+d)
 | 0,_=>Nat.le_refl _
 | d+1,k=>Nat.le_trans (frN_mono S d k) (by rw [<-Nat.add_assoc,frN]; omega)
theorem rgO_rng {S:List DSl} (hS:SlP S) {h:Nat} (hh:h < 4) (p:DP):rgO S h p=-1\/((frN S h:Int)<=rgO S h p/\rgO S h p < (frN S (h+1):Nat)):=by
 unfold rgO
 rcases ptX_rng hS hh p with e|⟨e1,e2⟩
 ·rw [if_pos e]; exact .inl rfl
 ·rw [if_neg (by omega)]
  refine .inr ⟨by omega,?_⟩
  rw [frN]; omega
theorem rg_two {S:List DSl} (hS:SlP S) {h g:Nat} (hh:h < 4) (hg:g < 4) (hne:h ≠ g) (p:DP):(rgO S h p < 0\/rgO S g p < 0)\/∃ i j:Nat,rgO S h p=i/\rgO S g p=j/\i < frN S 4/\j < frN S 4/\i ≠ j:=by
 rcases rgO_rng hS hh p with e|⟨e1,e2⟩
 ·exact .inl (.inl (by omega))
 rcases rgO_rng hS hg p with e|⟨e3,e4⟩
 ·exact .inl (.inr (by omega))
 have m1:=frN_mono S (4 - (h+1)) (h+1)
 have m2:=frN_mono S (4 - (g+1)) (g+1)
 rw [show h+1+(4 - (h+1))=4 by omega] at m1
 rw [show g+1+(4 - (g+1))=4 by omega] at m2
 refine .inr ⟨(rgO S h p).toNat,(rgO S g p).toNat,by omega,by omega,by omega,by omega,fun e=>?_⟩
 rcases Nat.lt_or_gt_of_ne hne with hlt|hlt
 ·have m3:=frN_mono S (g - (h+1)) (h+1)
  rw [show h+1+(g - (h+1))=g by omega] at m3
  omega
 ·have m3:=frN_mono S (h - (g+1)) (g+1)
  rw [show g+1+(h - (g+1))=h by omega] at m3
  omega
theorem link_fn (x:Option Nat) (s:DSn) (S:List DSl) (op:List Int) (L:List (List Int)) (a b:Int) (h:(a < 0\/b < 0)\/∃ i j:Nat,a=i/\b=j/\i < L.length/\j < L.length/\i ≠ j) (hn:∀ l ∈ L,l.length<=1000000) (hL:L.length<=1000000000):FnA Tryz.prog 53 [.ptr 0 0,.sc (.int .i64 a),.sc (.int .i64 b)] (tabM x (rdc s S op L.length) 3 0 L) (.tup []) (tabM x (rdc s S op L.length) 3 1 (lnkO L a b)):=by
 rcases h with h|⟨i,j,rfl,rfl,hi,hj,hij⟩
 ·unfold lnkO
  rw [if_neg (by omega)]
  exact linkF_fn x s S op L a b h
 ·unfold lnkO
  rw [if_pos ⟨by omega,by omega⟩,Int.toNat_natCast,Int.toNat_natCast]
  exact linkT_fn x s S op L i j hi hj hij hn hL
noncomputable def cnH (S:List DSl) (p:DP) (L:List (List Int)):Nat->List (List Int)
 | 0=>L
 | h+1=>lnkO (cnH S p L h) (rgO S h p) (rgO S ((h+1) % 4) p)
noncomputable def cnK (S:List DSl) (tb:List DV) (op:List Int):Nat->List (List Int)
 | 0=>List.replicate (frN S S.length) []
 | q+1=>cnH S (ptV (nth (t:=tVec) tb (nth (t:=.int) op q).toNat)) (cnK S tb op q) 4
def srtR (l:List Int):List Int:=Lib.compact (l.mergeSort leZ)
noncomputable def lnkD (S:List DSl) (tb:List DV) (op:List Int):List (List Int):=(cnK S tb op op.length).map srtR
theorem cnH_len {S:List DSl} {p:DP} {L:List (List Int)}:∀ h,(cnH S p L h).length=L.length
 | 0=>rfl
 | h+1=>by rw [cnH,lnkO_len,cnH_len h]
theorem cnK_len {S:List DSl} {tb:List DV} {op:List Int}:∀ q,(cnK S tb op q).length=frN S S.length
 | 0=>List.length_replicate
 | q+1=>by rw [cnK,cnH_len,cnK_len q]
theorem cnH_row {S:List DSl} (hS:SlP S) {p:DP} {L:List (List Int)} {m:Nat} (hL:L.length=frN S 4) (hm:∀ l ∈ L,l.length<=m):∀ h,h<=4->∀ l ∈ cnH S p L h,l.length<=m+h
 | 0,_=>hm
 | h+1,hh=>by
  have ih:=cnH_row hS hL hm h (by omega) (p:=p)
  have hlen:=cnH_len (S:=S) (p:=p) (L:=L) h
  intro l hl
  rw [cnH] at hl
  unfold lnkO at hl
  split at hl
  ·rename_i hc
   rcases rg_two hS (h:=h) (g:=(h+1) % 4) (by omega) (by omega) (by omega) p with h1|⟨i,j,e1,e2,hi,hj,_⟩
   ·omega
   ·rw [e1,e2,Int.toNat_natCast,Int.toNat_natCast] at hl
    have:=lnkN_row (by omega) (by omega) ih l hl
    omega
  ·have:=ih l hl; omega
theorem cnK_row {S:List DSl} (hS:SlP S) {tb:List DV} {op:List Int}:∀ q,∀ l ∈ cnK S tb op q,l.length<=4 * q
 | 0=>fun l hl=>by rw [(List.mem_replicate.1 hl).2]; exact Nat.le_refl _
 | q+1=>fun l hl=>by
  have:=cnH_row hS (by rw [cnK_len,hS.four]) (cnK_row hS q (tb:=tb) (op:=op)) 4 (Nat.le_refl _) l hl
  omega
theorem okM_rows {e:TypeId} {v v':Nat} (hv:v < v'):∀ {L L':List (List Int)} {k:Nat},L.length=L'.length->okM (rowsM e k v L) (rowsM e k v' L')
 | [],[],_,_=>trivial
 | _ :: L,_ :: L',k,h=>⟨rfl,⟨hv,fun _=>rfl⟩,okM_rows hv (by simpa using h)⟩
 | [],_ :: _,_,h=>by simp at h
 | _ :: _,[],_,h=>by simp at h
theorem okM_tab {x:Option Nat} {rc rc':List AV} {e:TypeId} {v v':Nat} (hv:v < v') {L L':List (List Int)} (h:L.length=L'.length):okM (tabM x rc e v L) (tabM x rc' e v' L'):=by
 refine ⟨rfl,?_,rfl,trivial,okM_rows hv h⟩
 cases x
 ·trivial
 ·rfl
theorem isEs_rows {lm:Nat->Option Blk} {rng:List Nat} {e:TypeId} {v:Nat}:∀ {L:List (List Int)} {k:Nat},(∀ i (h:i < L.length),lm (i+k)=some (.row e .int v true L[i]))->IsEs lm rng (rowsM e k v L)
 | [],_,_=>trivial
 | l :: L,k,h=>by
  refine ⟨?_,isEs_rows fun i hi=>?_⟩
  ·have h0:=h 0 (by simp)
   rw [Nat.zero_add] at h0
   show IsE lm rng k (.row e .int v true l)
   unfold IsE
   simp only [h0]
   exact ⟨trivial,trivial,rfl,fun _=>⟨trivial,rfl⟩⟩
  ·have:=h (i+1) (by simpa using hi)
   rw [show i+(k+1)=i+1+k by omega,this]; rfl
theorem isPB_hdl {rng:List Nat} {v:Nat}:∀ {L:List (List Int)} {k:Nat},(∀ i,i < L.length->i+k ∈ rng)->All2 (IsPB rng) (hdlM k v L) (hdlM k v L)
 | [],_,_=>trivial
 | _ :: L,k,h=>⟨⟨rfl,by have:=h 0 (by simp); rwa [Nat.zero_add] at this⟩,isPB_hdl fun i hi=>by have:=h (i+1) (by simpa using hi); rwa [show i+(k+1)=i+1+k by omega]⟩
theorem isPB_self {rng:List Nat} {n:Nat} (h1:1 ∈ rng):∀ {rc:List AV},(∀ v ∈ rc,selfC n v)->All2 (IsPB rng) rc rc
 | [],_=>trivial
 | v :: rc,h=>by
  refine ⟨?_,isPB_self h1 fun u hu=>h u (List.mem_cons_of_mem _ hu)⟩
  have hv:=h v List.mem_cons_self
  cases v with
  | sc x=>rfl
  | sl t l=>exact .inl rfl
  | row k m=>obtain ⟨rfl,rfl⟩:=hv; exact ⟨rfl,h1⟩
  | _=>exact hv.elim
theorem isEs_tab {lm:Nat->Option Blk} {x:Option Nat} {rc:List AV} {e:TypeId} {v n:Nat} {L:List (List Int)} (hrc:∀ u ∈ rc,selfC n u) (h0:lm 0=some (.bx x rc)) (h1:lm 1=some (.box (hdlM 2 v L))) (hr:∀ i (h:i < L.length),lm (i+2)=some (.row e .int v true L[i])):IsEs lm ((tabM x rc e v L).map (·.1)) (tabM x rc e v L):=by
 have hrng:(tabM x rc e v L).map (·.1)=List.range' 0 (L.length+2):=tab_keys
 rw [hrng]
 have m:∀ j,j < L.length+2->j ∈ List.range' 0 (L.length+2):=fun j hj=>by rw [List.mem_range'_1]; omega
 refine ⟨?_,?_,isEs_rows hr⟩
 ·show IsE lm _ 0 (.bx x rc)
  cases x with
  | none=>unfold IsE; simp only [h0]; exact isPB_self (m 1 (by omega)) hrc
  | some y=>unfold IsE; simp only [h0]; exact ⟨trivial,isPB_self (m 1 (by omega)) hrc⟩
 ·show IsE lm _ 1 (.bx none (hdlM 2 v L))
  unfold IsE
  simp only [h1]
  exact isPB_hdl fun i hi=>m _ (by omega)
theorem askA_tab {lm:Nat->Option Blk} {K:Eff->Prop} {x:Option Nat} {rc:List AV} {e:TypeId} {n:Nat} {L L':List (List Int)} {a b:Int} (hrc:∀ u ∈ rc,selfC n u) (h0:lm 0=some (.bx x rc)) (h1:lm 1=some (.box (hdlM 2 0 L))) (hr:∀ i (h:i < L.length),lm (i+2)=some (.row e .int 0 true L[i])) (hl:L.length=L'.length)
  (hK:K ⟨.tup [],tabM x rc e 1 L',List.range' 0 (L.length+2)⟩):AskA lm K [.ptr 0 0,.sc (.int .i64 a),.sc (.int .i64 b)] [.ptr 0 0,.sc (.int .i64 a),.sc (.int .i64 b)] (tabM x rc e 0 L) (.tup []) (tabM x rc e 1 L'):=by
 refine ⟨okM_tab (by omega) hl,⟨⟨rfl,?_⟩,rfl,rfl,trivial⟩,isEs_tab hrc h0 h1 hr,?_⟩
 ·rw [tab_keys,List.mem_range'_1]; omega
 ·show K ⟨.tup [],tabM x rc e 1 L'++[],(tabM x rc e 0 L).map (·.1)++[]⟩
  rw [List.append_nil,List.append_nil,tab_keys]
  exact hK
theorem okTr_last {ops:List Oper} {tr:Tr} {t t':List Nat × List Nat} (h:okTr ops (tr++[t])=true) (hm:((List.range tr.length).all fun i=>((masks ops).getD tr.length 0).testBit i)=true):okTr ops (tr++[t'])=true:=by
 unfold okTr at h ⊢
 rw [Bool.and_eq_true] at h ⊢
 refine ⟨h.1,?_⟩
 have key:∀ {s:List Nat × List Nat} {o:Oper} {u:List Nat × List Nat} {k:Nat},(⟨⟨o,u⟩,k⟩:(Oper × (List Nat × List Nat)) × Nat) ∈ (ops.zip (tr++[s])).zipIdx->k < tr.length\/k=tr.length:=by
  intro s o u k hk
  have h1:=List.mem_zipIdx hk
  have:k < (ops.zip (tr++[s])).length:=by simpa using h1.2.1
  rw [List.length_zip,List.length_append,List.length_singleton] at this
  omega
 have same:∀ {s s':List Nat × List Nat} {o:Oper} {u:List Nat × List Nat} {k:Nat},(⟨⟨o,u⟩,k⟩:(Oper × (List Nat × List Nat)) × Nat) ∈ (ops.zip (tr++[s])).zipIdx->k < tr.length->(⟨⟨o,u⟩,k⟩:(Oper × (List Nat × List Nat)) × Nat) ∈ (ops.zip (tr++[s'])).zipIdx:=by
  intro s s' o u k hk hlt
  rw [List.mem_zipIdx_iff_getElem?] at hk ⊢
  rw [List.getElem?_zip_eq_some] at hk ⊢
  refine ⟨hk.1,?_⟩
  have:=hk.2
  rw [List.getElem?_append_left hlt] at this ⊢
  exact this
 have hall:=List.all_eq_true.1 h.2
 rw [List.all_eq_true]
 rintro ⟨⟨o,u⟩,k⟩ hy
 rw [List.all_eq_true]
 rintro ⟨⟨o2,u2⟩,k2⟩ hx
 rcases key hy with hk|hk
 ·by_cases hlt:k2 < k
  ·have:=List.all_eq_true.1 (hall _ (same (s':=t) hy hk)) _ (same (s':=t) hx (by omega))
   exact this
  ·simp only [hlt,decide_false,Bool.not_false,Bool.true_or]
 ·by_cases hlt:k2 < k
  ·have hb:=List.all_eq_true.1 hm k2 (List.mem_range.2 (by omega))
   subst hk
   simp only [hb,Bool.or_true]
  ·simp only [hlt,decide_false,Bool.not_false,Bool.true_or]
theorem wkM_app {σm τm:Nat->Option Blk} {ρ:Nat->Nat} {rng:List Nat}:∀ {A B:Mm},wkM σm τm ρ rng A->wkM σm τm ρ rng B->wkM σm τm ρ rng (A++B)
 | [],_,_,h=>h
 | _ :: A,_,⟨h1,h2⟩,h=>⟨h1,wkM_app h2 h⟩
theorem wk_loop {σ:St} {T:Tm} {B:Mm} {x:Option Nat} {rc:List AV} {e:TypeId} {ver n:Nat} {cs:List AV} {L:List (List Int)} (hrc:∀ v ∈ rc,selfC n v) (hBk:∀ p ∈ B,L.length+2<=p.1) (hBn:(B.map (·.1)).Nodup)
  (h0:look σ.mem 0=some (.bx x rc)) (h1:look σ.mem 1=some (.box cs)) (hl:cs.length=L.length)
  (hc:∀ i (h:i < L.length),∃ v,cs[i]? = some (.row (i+2) v)/\look σ.mem (i+2)=some (.row e .int v true L[i]))
  (hT:∀ rng,wkT (look σ.mem) (look (B++tabM x rc e ver L)) id rng σ.tmps T) (hB:∀ rng,wkM (look σ.mem) (look (B++tabM x rc e ver L)) id rng B):Wk σ ⟨T,B++tabM x rc e ver L⟩:=by
 have hlk:∀ k,k < L.length+2->look (B++tabM x rc e ver L) k=look (tabM x rc e ver L) k:=by
  intro k hk
  have:∀ {B:Mm},(∀ p ∈ B,L.length+2<=p.1)->look (B++tabM x rc e ver L) k=look (tabM x rc e ver L) k:=by
   intro B
   induction B with
   | nil=>intro _; rfl
   | cons p B ih =>
    intro h
    obtain ⟨j,C⟩:=p
    have:=h _ List.mem_cons_self
    rw [List.cons_append,look_ne _ _ (by dsimp only at this; omega)]
    exact ih fun q hq=>h q (List.mem_cons_of_mem _ hq)
  exact this hBk
 have hρ:ren []=id:=rfl
 refine ⟨σ,.refl σ,[],?_,?_,?_⟩
 ·rw [show (fun p:Nat × Blk=>ren [] p.1)=(fun p=>p.1) from rfl,List.map_append,tab_keys,List.nodup_append]
  refine ⟨hBn,List.nodup_range',fun a ha b hb=>?_⟩
  obtain ⟨p,hp,rfl⟩:=List.mem_map.1 ha
  have:=hBk p hp
  rw [List.mem_range'_1] at hb
  omega
 ·exact hT _
 ·refine wkM_app (hB _) ?_
  rw [hρ]
  refine ⟨?_,?_,wkM_rows fun i hi=>⟨_,(hc i hi).choose_spec.2⟩⟩
  ·show wkB _ _ _ _ 0 (.bx x rc)
   unfold wkB
   simp only [id,h0]
   refine ⟨trivial,?_⟩
   have:∀ {cs:List AV} {rng:List Nat},(∀ v ∈ cs,selfC n v)->All2 (LeC (look σ.mem) (look (B++tabM x rc e ver L)) id rng) cs cs:=by
    intro cs rng
    induction cs with
    | nil=>intro _; trivial
    | cons v cs ih =>
     intro h
     refine ⟨?_,ih fun u hu=>h u (List.mem_cons_of_mem _ hu)⟩
     have hv:=h v List.mem_cons_self
     cases v with
     | sc x=>rfl
     | sl t l=>exact .inl ⟨rfl,fun k hk=>by cases hk⟩
     | row k m =>
      obtain ⟨rfl,rfl⟩:=hv
      unfold LeC
      simp only [hlk 1 (by omega),tab_1]
      exact ⟨rfl,trivial⟩
     | _=>exact hv.elim
   exact this hrc
  ·show wkB _ _ _ _ 1 (.bx none (hdlM 2 ver L))
   unfold wkB
   simp only [id,h1]
   exact ⟨trivial,all2_hdl hl hc fun i hi=>by rw [hlk _ (by omega),tab_r hi]⟩
theorem wk_nil {τ:St} {e:TypeId} {n:Nat}:∀ (d m:Nat) (σ:St) (cs:List AV),m+d=n->cs.length=n->(∀ i,i < m->cs[i]? = some (.row (i+2) 0))->(∀ i,m<=i->i < n->cs[i]? = some (.sc (.slice none 0 0)))->look σ.mem 1=some (.box cs)->(∀ i,i < m->look σ.mem (i+2)=some (.row e .int 0 true []))->(∀ i,m<=i->look σ.mem (i+2)=none) →
  (∀ (σ':St) (cs':List AV),σ'.tmps=σ.tmps->look σ'.mem 0=look σ.mem 0->look σ'.mem 1=some (.box cs')->cs'.length=n->(∀ i,i < n->cs'[i]? = some (.row (i+2) 0)/\look σ'.mem (i+2)=some (.row e .int 0 true []))->Wk σ' τ)->Wk σ τ
 | 0,m,σ,cs,hm,hl,h1,_,h3,h4,_,K=>K σ cs rfl rfl h3 hl fun i hi=>⟨h1 i (by omega),h4 i (by omega)⟩
 | d+1,m,σ,cs,hm,hl,h1,h2,h3,h4,h5,K=>by
  refine Wk.nilB 1 m (m+2) e .int h3 (h2 m (Nat.le_refl _) (by omega)) (h5 m (Nat.le_refl _)) ?_
  refine wk_nil d (m+1) _ (cs.set m (.row (m+2) 0)) (by omega) (by rw [List.length_set]; exact hl) (fun i hi=>?_) (fun i hi hn=>?_) (look_self ..) (fun i hi=>?_) (fun i hi=>?_) fun σ' cs' k1 k2 k3 k4 k5=>K σ' cs' k1 (k2.trans ?_) k3 k4 k5
  ·rw [List.getElem?_set]
   by_cases e:m=i
   ·subst e; rw [if_pos rfl,if_pos (by omega)]
   ·rw [if_neg e]; exact h1 i (by omega)
  ·rw [List.getElem?_set,if_neg (by omega)]; exact h2 i (by omega) hn
  ·show look ((1,_) :: (m+2,_) :: σ.mem) (i+2)=_
   rw [look_ne _ _ (by omega)]
   by_cases e:i=m
   ·subst e; exact look_self ..
   ·rw [look_ne _ _ (by omega)]; exact h4 i (by omega)
  ·show look ((1,_) :: (m+2,_) :: σ.mem) (i+2)=_
   rw [look_ne _ _ (by omega),look_ne _ _ (by omega)]; exact h5 i (by omega)
  ·show look ((1,_) :: (m+2,_) :: σ.mem) 0=_
   rw [look_ne _ _ (by omega),look_ne _ _ (by omega)]
theorem list_of {β:Type} {P:Nat->β->Prop}:∀ (n:Nat),(∀ i,i < n->∃ f,P i f)->∃ fs:List β,fs.length=n/\∀ i,i < n->∃ f,fs[i]? = some f/\P i f
 | 0,_=>⟨[],rfl,fun i hi=>by omega⟩
 | n+1,h=>by
  obtain ⟨fs,h1,h2⟩:=list_of n fun i hi=>h i (by omega)
  obtain ⟨f,hf⟩:=h n (by omega)
  refine ⟨fs++[f],by rw [List.length_append,h1]; rfl,fun i hi=>?_⟩
  by_cases e:i=n
  ·subst e; exact ⟨f,by rw [List.getElem?_append_right (by omega),h1,Nat.sub_self]; rfl,hf⟩
  ·obtain ⟨g,hg,hp⟩:=h2 i (by omega)
   exact ⟨g,by rw [List.getElem?_append_left (by omega)]; exact hg,hp⟩
theorem all2_snoc {R R':AV->Value->Prop} {x y:AV}:∀ {D:List AV} {us:List Value},(∀ v ∈ D,∀ u,R v u->R' v u)->(∀ u,R x u->R' y u)->All2 R (D++[x]) us->All2 R' (D++[y]) us
 | [],[u],_,h2,⟨h,_⟩=>⟨h2 u h,trivial⟩
 | [],[],_,_,h=>h.elim
 | [],_ :: _ :: _,_,_,h=>h.2.elim
 | v :: D,u :: us,h1,h2,⟨h3,h4⟩=>⟨h1 v List.mem_cons_self u h3,all2_snoc (fun v hv=>h1 v (List.mem_cons_of_mem _ hv)) h2 h4⟩
 | _ :: _,[],_,_,h=>h.elim
def plainC:AV->Prop
 | .sc _=>True
 | .sl _ _=>True
 | _=>False
theorem sim_done {c:Cx} {σ:St} {Γ:Asg} {a:Act} {w:World} (hs:Sim c σ Γ a w) {b n:Nat} {D cs:List AV} {e:TypeId} {L:List (List Int)} (hD:∀ v ∈ D,plainC v) (h0:look σ.mem 0=some (.bx (some b) (D++[.row 1 n]))) (h1:look σ.mem 1=some (.box cs)) (hl:cs.length=L.length) (hn:n=L.length)
  (hc:∀ i (h:i < L.length),∃ v,cs[i]? = some (.row (i+2) v)/\look σ.mem (i+2)=some (.row e .int v true L[i])):Sim c ⟨[],[(0,.bx (some b) (D++[.sl (.slice .int) L]))]⟩ Γ a w:=by
 subst hn
 have hmut:∀ {g:Nat},Mut [(0,.bx (some b) (D++[.sl (.slice .int) L]))] Γ g->g=b:=by
  rintro g ⟨k,B,hk,hm⟩
  simp only [look] at hk
  split at hk
  ·injection hk with hk; subst hk; exact hm
  ·cases hk
 have hgd:∀ {g:Nat},Gd c σ.mem Γ g->Gd c [(0,.bx (some b) (D++[.sl (.slice .int) L]))] Γ g:=fun {g} hg=>⟨hg.1,fun hm=>by
  have:=hmut hm; subst this
  exact hg.2 ⟨0,_,h0,rfl⟩⟩
 have hown:∀ {g k:Nat} {B:Blk},k ≠ 0->look σ.mem k=some B->B.mut Γ k g->g ≠ b:=fun {g k B} hk hB hm e=>by
  subst e
  exact hk (hs.inj _ _ _ _ g hB h0 hm rfl)
 refine ⟨(fun d v hd=>by cases hd),fun k B hk=>?_,fun k k' B B' g hk hk' _ _=>?_,fun k k' B B' g hk hk' hne hb=>?_,hs.below,hs.hb,hs.defs,hs.sz⟩
 ·simp only [look] at hk
  split at hk
  ·rename_i hk0
   subst hk0
   injection hk with hk; subst hk
   obtain ⟨hb,us,e0,hg,hcur⟩:=hs.mm 0 _ h0
   refine ⟨hb,us,e0,hg,all2_snoc (fun v hv u hu=>?_) (fun u hu=>?_) hcur⟩
   ·have:=hD v hv
    cases v with
    | sc x=>exact hu
    | sl t l=>obtain ⟨fp,hr,hf⟩:=hu; exact ⟨fp,hr,fun g hg=>hgd (hf g hg)⟩
    | _=>exact this.elim
   ·obtain ⟨_,B,hB,hh⟩:=hu
    rw [h1] at hB; injection hB with hB; subst hB
    obtain ⟨rfl,hmx⟩:=hh
    obtain ⟨hb1,us1,e1,hg1,hc1⟩:=hs.mm 1 _ h1
    have hbase:c.base<=Γ.loc 1 none:=hb1
    obtain ⟨fps,hfl,hfp⟩:=list_of (P:=fun i f=>∃ (hi:i < L.length) (u:Value),us1.toList[i]? = some u/\(Rp.slice Ty.int.rp Ty.int.pos).rep w [u] L[i] f/\∀ g ∈ f,Gd c [(0,.bx (some b) (D++[.sl (.slice .int) L]))] Γ g) L.length fun i hi=>by
     obtain ⟨v,q1,q2⟩:=hc i hi
     obtain ⟨u,hu,hr⟩:=hc1.get q1
     obtain ⟨_,B,hB,hh⟩:=hr
     rw [q2] at hB; injection hB with hB; subst hB
     have hu2:=hh.2 rfl
     obtain ⟨fps,hgr,hf,hgdr,_⟩:=hs.mm _ _ q2
     obtain ⟨fp,hrep,hfp⟩:=growR_rep hgr
     refine ⟨fp,hi,u,hu,hu2 ▸ hrep,fun g hg=>?_⟩
     rcases hfp with rfl|⟨g2,hgo,rfl,hbg,_⟩
     ·cases hg
     ·rcases List.mem_cons.1 hg with rfl|hg
      ·exact ⟨hbg.gd,fun hm=>hown (by omega) q2 hgo (hmut hm)⟩
      ·exact hgd (hgdr g (hf ▸ hg))
    by_cases hnil:L=[]
    ·subst hnil
     exact ⟨[],⟨_,_,rfl,Nat.le_refl _,hmx,.inl ⟨rfl,rfl⟩⟩,fun g hg=>by cases hg⟩
    ·refine ⟨Γ.loc 1 none :: fps.flatten,⟨_,_,rfl,Nat.le_refl _,hmx,.inr ⟨Γ.loc 1 none,0,fps,hnil,rfl,rfl,hfl,fun i x hx=>?_⟩⟩,fun g hg=>?_⟩
     ·obtain ⟨hi,hx⟩:=List.getElem?_eq_some_iff.1 hx
      subst hx
      obtain ⟨f,q1,_,u,q2,q3,_⟩:=hfp i hi
      refine ⟨f,[u],q1,q3,fun j v hj=>?_⟩
      have hj0:j=0:=by have:=(List.getElem?_eq_some_iff.1 hj).1; simp at this; omega
      subst hj0
      injection hj with hj; subst hj
      rw [show (0+i * (Ty.slice Ty.int).rp.size+0)=i by show 0+i * 1+0=i; omega,cell_of_row w _ i us1 e1 (0,0) hg1,<-Array.getElem?_toList]
      exact q2
     ·rcases List.mem_cons.1 hg with rfl|hg
      ·exact ⟨.inr hbase,fun hm=>hown (by decide) h1 rfl (hmut hm)⟩
      ·obtain ⟨f,hf,hgf⟩:=List.mem_flatten.1 hg
       obtain ⟨i,hi,rfl⟩:=List.getElem_of_mem hf
       obtain ⟨f,q1,_,u,_,_,q4⟩:=hfp i (by omega)
       rw [List.getElem?_eq_getElem hi] at q1; injection q1 with q1
       exact q4 g (q1 ▸ hgf)
  ·cases hk
 ·simp only [look] at hk hk'
  split at hk
  ·split at hk'
   ·rename_i h1 h2; exact h1.trans h2.symm
   ·cases hk'
  ·cases hk
 ·simp only [look] at hk hk'
  split at hk
  ·split at hk'
   ·rename_i h1 h2; exact absurd (h1.trans h2.symm) hne
   ·cases hk'
  ·cases hk
theorem wk_done {σ:St} {b n:Nat} {D cs:List AV} {e:TypeId} {L:List (List Int)} (hD:∀ v ∈ D,plainC v) (h0:look σ.mem 0=some (.bx (some b) (D++[.row 1 n]))) (h1:look σ.mem 1=some (.box cs)) (hl:cs.length=L.length) (hn:n=L.length)
  (hc:∀ i (h:i < L.length),∃ v,cs[i]? = some (.row (i+2) v)/\look σ.mem (i+2)=some (.row e .int v true L[i])):Wk σ ⟨[],[(0,.bx (some b) (D++[.sl (.slice .int) L]))]⟩:=by
 refine ⟨_,.conv (fun hs=>⟨_,sim_done hs hD h0 h1 hl hn hc⟩) (.refl _),[],?_,trivial,?_,trivial⟩
 ·exact List.nodup_cons.2 ⟨(fun h=>by cases h),List.nodup_nil⟩
 ·have hself:∀ {σm τm:Nat->Option Blk} {ρ:Nat->Nat} {rng:List Nat} {rc:List AV},(∀ v ∈ rc,plainC v)->All2 (LeC σm τm ρ rng) rc rc:=by
   intro σm τm ρ rng rc
   induction rc with
   | nil=>intro _; trivial
   | cons v rc ih =>
    intro h
    refine ⟨?_,ih fun u hu=>h u (List.mem_cons_of_mem _ hu)⟩
    have hv:=h v List.mem_cons_self
    cases v with
    | sc x=>rfl
    | sl t l=>exact .inl ⟨rfl,fun k hk=>by cases hk⟩
    | _=>exact hv.elim
  show wkB _ _ _ _ 0 (.bx (some b) (D++[.sl (.slice .int) L]))
  unfold wkB
  show (match look [(0,Blk.bx (some b) (D++[.sl (.slice .int) L]))] 0 with|some (.bx x0 cs0)=>x0=some b/\All2 _ cs0 (D++[.sl (.slice .int) L])|_=>False)
  exact ⟨rfl,hself fun v hv=>by
   rcases List.mem_append.1 hv with hv|hv
   ·exact hD v hv
   ·rw [List.mem_singleton.1 hv]; trivial⟩
theorem mut_key {k b g:Nat} {cs:List AV} {Γ:Asg}:Mut [(k,.bx (some b) cs)] Γ g ↔ g=b:=by
 constructor
 ·rintro ⟨j,B,hj,hm⟩
  simp only [look] at hj
  split at hj
  ·injection hj with hj; subst hj; exact hm
  ·cases hj
 ·rintro rfl
  exact ⟨k,_,look_self ..,rfl⟩
theorem crep_key {c:Cx} {k k' b:Nat} {cs cs1:List AV} {Γ Γ1:Asg} {w:World} {v:AV} {u:Value} (hv:plainC v) (h:CRep c [(k,.bx (some b) cs)] Γ w v u):CRep c [(k',.bx (some b) cs1)] Γ1 w v u:=by
 cases v with
 | sc x=>exact h
 | sl t l =>
  obtain ⟨fp,hr,hg⟩:=h
  exact ⟨fp,hr,fun g hgf=>⟨(hg g hgf).1,fun hm=>(hg g hgf).2 (mut_key.2 (mut_key.1 hm))⟩⟩
 | _=>exact hv.elim
theorem sim_key {c:Cx} {k k' b:Nat} {cs:List AV} {Γ Γ1:Asg} {a:Act} {w:World} (hcs:∀ v ∈ cs,plainC v) (hs:Sim c ⟨[],[(k,.bx (some b) cs)]⟩ Γ a w):Sim c ⟨[],[(k',.bx (some b) cs)]⟩ Γ1 a w:=by
 refine ⟨(fun d v hd=>by cases hd),fun j B hj=>?_,fun j j' B B' g hj hj' _ _=>?_,fun j j' B B' g hj hj' hne _=>?_,hs.below,hs.hb,hs.defs,hs.sz⟩
 ·simp only [look] at hj
  split at hj
  ·injection hj with hj; subst hj
   obtain ⟨hb,us,e,hg,hc⟩:=hs.mm k _ (look_self ..)
   refine ⟨hb,us,e,hg,?_⟩
   have:∀ {ds:List AV} {us:List Value},(∀ v ∈ ds,plainC v)->All2 (CRep c [(k,.bx (some b) cs)] Γ w) ds us->All2 (CRep c [(k',.bx (some b) cs)] Γ1 w) ds us:=by
    intro ds
    induction ds with
    | nil=>intro us _ h; cases us with|nil=>trivial|cons _ _=>exact h.elim
    | cons v ds ih =>
     intro us hd h
     cases us with
     | nil=>exact h.elim
     | cons u us=>exact ⟨crep_key (hd v List.mem_cons_self) h.1,ih (fun x hx=>hd x (List.mem_cons_of_mem _ hx)) h.2⟩
   exact this hcs hc
  ·cases hj
 ·simp only [look] at hj hj'
  split at hj
  ·split at hj'
   ·rename_i h1 h2; exact h1.trans h2.symm
   ·cases hj'
  ·cases hj
 ·simp only [look] at hj hj'
  split at hj
  ·split at hj'
   ·rename_i h1 h2; exact absurd (h1.trans h2.symm) hne
   ·cases hj'
  ·cases hj
theorem FnA.ren1 {P:Program} {f:FuncId} {cs cs':List AV} (hcs:∀ v ∈ cs,plainC v) (hcs':∀ v ∈ cs',plainC v) (h:FnA P f [.ptr 0 0] [(0,.box cs)] (.tup []) [(0,.box cs')]) (k:Nat):FnA P f [.ptr k 0] [(k,.box cs)] (.tup []) [(k,.box cs')]:=by
 refine ⟨h.1,h.2.1,fun c Γ a w us hcg hb hw hs hv=>?_⟩
 let Γ0:Asg:=⟨fun _=>Γ.β k,Γ.hd,Γ.fp⟩
 have hs0:Sim c ⟨[],pinM Γ0.β [(0,.box cs)]⟩ Γ0 a w:=sim_key (k:=k) (Γ:=Γ) hcs hs
 match us,hv with
 | [u],⟨hv,_⟩ =>
  obtain ⟨x,ds,hk,rfl⟩:=hv
  have hx:x=some (Γ.β k):=by
   have hk:look [(k,Blk.bx (some (Γ.β k)) cs)] k=some (.bx x ds):=hk
   rw [look_self] at hk
   injection hk with hk; injection hk with hk _
   exact hk.symm
  subst hx
  refine (h.2.2 c Γ0 a w [.pointer (some ⟨Γ.loc k (some (Γ.β k)),0,none⟩)] hcg hb hw hs0 ⟨⟨some (Γ.β k),cs,look_self ..,rfl⟩,trivial⟩).mono ?_
  rintro e w' ⟨u',Γ',a',n,he,hs',hr⟩
  obtain ⟨us,e1,e2⟩:=hr
  match us,e2 with
  | [],_=>exact ⟨u',Γ',a',n,he,sim_key (k:=0) (Γ:=Γ') hcs' hs',[],e1,trivial⟩
theorem all2_plain {σm τm:Nat->Option Blk} {ρ:Nat->Nat} {rng:List Nat}:∀ {rc:List AV},(∀ v ∈ rc,plainC v)->All2 (LeC σm τm ρ rng) rc rc
 | [],_=>trivial
 | v :: rc,h=>by
  refine ⟨?_,all2_plain fun u hu=>h u (List.mem_cons_of_mem _ hu)⟩
  have hv:=h v List.mem_cons_self
  cases v with
  | sc x=>rfl
  | sl t l=>exact .inl ⟨rfl,fun k hk=>by cases hk⟩
  | _=>exact hv.elim
theorem wkM_box {σm τm:Nat->Option Blk} {rng:List Nat} {k:Nat} {x:Option Nat} {cs:List AV} (hcs:∀ v ∈ cs,plainC v) (h:σm k=some (.bx x cs)):wkM σm τm id rng [(k,.bx x cs)]:=by
 refine ⟨?_,trivial⟩
 unfold wkB
 simp only [id,h]
 exact ⟨trivial,all2_plain hcs⟩
theorem RobotAtI_fn (s:DSc) (h:Int) (hs:sceneB s=true) (hh:0<=h/\h<=3):Fn Tryz.prog 122 [⟨tScene,s⟩,⟨.int,h⟩] true [⟨.slice tVec,robS s h⟩]:=by
 have p:=(scene_p hs).rob
 have c1:=IsValidSceneI_fn s
 rw [hs] at c1
 have c2:=isHeading_fn h
 rw [decide_eq_true hh] at c2
 have c3:=TurnPolygonI_fn s.2.2.1 h p.ok (by have:=p.five; omega) hh
 unfold robS
 refine fe Tryz.func122 Tryz.ntmps122 Tryz.results122 fun hwf=>?_
 try simp (maxSteps:=9^9) only[go_sem]
 repeat refine AI ?_
 repeat refine AI ?_
 refine cw c1 ?_
 try simp (maxSteps:=9^9) only[go_sem]
 repeat refine AI ?_
 repeat refine AI ?_
 refine cw c2 ?_
 try simp (maxSteps:=9^9) only[go_sem]
 repeat refine AI ?_
 repeat refine AI ?_
 refine cw c3 ?_
 try simp (maxSteps:=9^9) only[go_sem]
 all_goals repeat refine AI ?_
 all_goals first|kernel_rfl|omega|rfl
theorem RobotAtI_nil (s:DSc) (h:Int) (hn:(sceneB s && hdB h)=false):Fn Tryz.prog 122 [⟨tScene,s⟩,⟨.int,h⟩] false [⟨.cst .nil,()⟩]:=by
 have c1:=IsValidSceneI_fn s
 have c2:=isHeading_fn h
 unfold hdB at hn
 cases hs:sceneB s<;>rw [hs] at c1 hn
 ·refine fe Tryz.func122 Tryz.ntmps122 Tryz.results122 fun hwf=>?_
  try simp (maxSteps:=9^9) only[go_sem]
  repeat refine AI ?_
  repeat refine AI ?_
  refine cw c1 ?_
  try simp (maxSteps:=9^9) only[go_sem]
  all_goals repeat refine AI ?_
  all_goals first|kernel_rfl|omega|rfl
 ·rw [Bool.true_and] at hn
  rw [hn] at c2
  refine fe Tryz.func122 Tryz.ntmps122 Tryz.results122 fun hwf=>?_
  try simp (maxSteps:=9^9) only[go_sem]
  repeat refine AI ?_
  repeat refine AI ?_
  refine cw c1 ?_
  try simp (maxSteps:=9^9) only[go_sem]
  repeat refine AI ?_
  repeat refine AI ?_
  refine cw c2 ?_
  try simp (maxSteps:=9^9) only[go_sem]
  all_goals repeat refine AI ?_
  all_goals first|kernel_rfl|omega|rfl
theorem widthOfI_fn (l:List DV) (h0:0 < l.length):Fn Tryz.prog 123 [⟨.slice tVec,l⟩] false [⟨tVec,(widD l).1⟩,⟨tVec,(widD l).2⟩]:=by
 refine fe Tryz.func123 Tryz.ntmps123 Tryz.results123 fun hwf=>?_
 have hl:l.length<=9223372036854775807:=(hwf ⟨.slice tVec,l⟩ (by simp)).1
 try simp (maxSteps:=9^9) only[go_sem]
 repeat refine AI ?_
 refine LoopG.intro _ _ _ (fun i:Nat=>⟨[(2,.ptr 0 0),(3,.ptr 1 0),(4,.ptr 2 0),(5,.ptr 3 0),(14,.sl tVec l),(15,.sc (.int .i64 l.length)),(16,.sc (.int .i64 i))],[(0,.box [.sc (.int .i64 0),.sc (.int .i64 0)]),(1,.box [.sc (.int .i64 0),.sc (.int .i64 0)]),(2,.box [.sc (.int .i64 (widI l i).1.1),.sc (.int .i64 (widI l i).1.2)]),(3,.box [.sc (.int .i64 (widI l i).2.1),.sc (.int .i64 (widI l i).2.2)])]⟩) (fun i=>i<=l.length) (fun i=>l.length - i) 0 ?_ (Nat.zero_le _) ?_
 ·exact WK
 ·rintro i hi
  try simp (maxSteps:=9^9) only[go_sem]
  refine CondW_dec (fun hA=>?_) (fun hA=>?_)
  ·try simp (maxSteps:=9^9) only[go_sem]
   repeat refine AI ?_
   refine LoopK.mk (i+1) ?_ (by omega) (by omega)
   exact WK
  ·rw [show widD l=widI l i by unfold widD; rw [show i=l.length by omega]]
   try simp (maxSteps:=9^9) only[go_sem]
   all_goals repeat refine AI ?_
   all_goals first|kernel_rfl|omega|rfl
theorem robS_len {s:DSc} (hs:sceneB s=true) (h:Int):3<=(robS s h).length/\(robS s h).length<=5:=by
 have h1:=(robS_sm hs h).poly.1.1
 have h2:=(robS_sm hs h).five
 omega
noncomputable def bxN (s:DSc) (h:Int):DV × DV:=if opnB s h then boxD s h else ((0,0),(0,0))
theorem bxN_t {s:DSc} {h:Int} (e:opnB s h=true):bxN s h=boxD s h:=if_pos e
theorem bxN_f {s:DSc} {h:Int} (e:opnB s h=false):bxN s h=((0,0),(0,0)):=if_neg (by rw [e]; decide)
theorem opnB_f1 {s:DSc} {h:Int} (e:(sceneB s && hdB h)=false):opnB s h=false:=by
 unfold opnB
 rw [<-Bool.and_assoc,e]; rfl
theorem opnB_t1 {s:DSc} {h:Int} (e:(sceneB s && hdB h)=true):opnB s h=limB s h:=by
 unfold opnB
 rw [<-Bool.and_assoc,e]; rfl
set_option maxHeartbeats 1000000 in
theorem LimitsOfI_fn (s:DSc) (h:Int):Fn Tryz.prog 84 [⟨tScene,s⟩,⟨.int,h⟩] false [⟨tBox,bxN s h⟩,⟨.bool,opnB s h⟩]:=by
 cases e:sceneB s && hdB h
 ·rw [bxN_f (opnB_f1 e),opnB_f1 e]
  have c1:=RobotAtI_nil s h e
  refine fe Tryz.func84 Tryz.ntmps84 Tryz.results84 fun hwf=>?_
  try simp (maxSteps:=9^9) only[go_sem]
  repeat refine AI ?_
  repeat refine AI ?_
  refine cw c1 ?_
  try simp (maxSteps:=9^9) only[go_sem]
  all_goals repeat refine AI ?_
  all_goals first|kernel_rfl|omega|rfl
 ·have es:=(Bool.and_eq_true_iff.1 e).1
  have eh:0<=h/\h<=3:=of_decide_eq_true (Bool.and_eq_true_iff.1 e).2
  have hb:=wid_b es h
  have hl1:=inB_b (scene_p es).low
  have hl2:=inB_b (scene_p es).high
  have hr:=robS_len es h
  have c1:=RobotAtI_fn s h es eh
  have c2:=widthOfI_fn (robS s h) (by omega)
  have hlim:limB s h=(decide ((boxD s h).1.1 < (boxD s h).2.1) && decide ((boxD s h).1.2 < (boxD s h).2.2)):=rfl
  by_cases h1:(boxD s h).1.1 < (boxD s h).2.1
  rotate_left
  ·have el:opnB s h=false:=by rw [opnB_t1 e,hlim,decide_eq_false h1]; rfl
   have d1:=decide_eq_true (p:=s.1.1 - (widD (robS s h)).1.1 ≥ s.2.1.1 - (widD (robS s h)).2.1) (show (boxD s h).2.1<=(boxD s h).1.1 from by omega)
   rw [bxN_f el,el]
   refine fe Tryz.func84 Tryz.ntmps84 Tryz.results84 fun hwf=>?_
   try simp (maxSteps:=9^9) only[go_sem]
   repeat refine AI ?_
   repeat refine AI ?_
   refine cw c1 ?_
   try simp (maxSteps:=9^9) only[go_sem]
   repeat refine AI ?_
   refine NilW.non (by intro e0; rw [e0] at hr; simp at hr) ?_
   try simp (maxSteps:=9^9) only[go_sem]
   repeat refine AI ?_
   repeat refine AI ?_
   refine cw c2 ?_
   try simp (maxSteps:=9^9) only[go_sem]
   repeat refine AI ?_
   try simp (maxSteps:=9^9) only[go_sem,d1]
   repeat refine AI ?_
   try simp (maxSteps:=9^9) only[go_sem,d1]
   all_goals repeat refine AI ?_
   all_goals first|kernel_rfl|omega|rfl
  have d1:=decide_eq_false (p:=s.1.1 - (widD (robS s h)).1.1 ≥ s.2.1.1 - (widD (robS s h)).2.1) (show ¬ ((boxD s h).2.1<=(boxD s h).1.1) from by omega)
  by_cases h2:(boxD s h).1.2 < (boxD s h).2.2
  rotate_left
  ·have el:opnB s h=false:=by rw [opnB_t1 e,hlim,decide_eq_true h1,decide_eq_false h2]; rfl
   have d2:=decide_eq_true (p:=s.1.2 - (widD (robS s h)).1.2 ≥ s.2.1.2 - (widD (robS s h)).2.2) (show (boxD s h).2.2<=(boxD s h).1.2 from by omega)
   rw [bxN_f el,el]
   refine fe Tryz.func84 Tryz.ntmps84 Tryz.results84 fun hwf=>?_
   try simp (maxSteps:=9^9) only[go_sem]
   repeat refine AI ?_
   repeat refine AI ?_
   refine cw c1 ?_
   try simp (maxSteps:=9^9) only[go_sem]
   repeat refine AI ?_
   refine NilW.non (by intro e0; rw [e0] at hr; simp at hr) ?_
   try simp (maxSteps:=9^9) only[go_sem]
   repeat refine AI ?_
   repeat refine AI ?_
   refine cw c2 ?_
   try simp (maxSteps:=9^9) only[go_sem]
   repeat refine AI ?_
   try simp (maxSteps:=9^9) only[go_sem,d1,d2]
   repeat refine AI ?_
   try simp (maxSteps:=9^9) only[go_sem,d1,d2]
   all_goals repeat refine AI ?_
   all_goals first|kernel_rfl|omega|rfl
  have d2:=decide_eq_false (p:=s.1.2 - (widD (robS s h)).1.2 ≥ s.2.1.2 - (widD (robS s h)).2.2) (show ¬ ((boxD s h).2.2<=(boxD s h).1.2) from by omega)
  have el:opnB s h=true:=by rw [opnB_t1 e,hlim,decide_eq_true h1,decide_eq_true h2]; rfl
  rw [bxN_t el,el]
  unfold boxD
  refine fe Tryz.func84 Tryz.ntmps84 Tryz.results84 fun hwf=>?_
  try simp (maxSteps:=9^9) only[go_sem]
  repeat refine AI ?_
  repeat refine AI ?_
  refine cw c1 ?_
  try simp (maxSteps:=9^9) only[go_sem]
  repeat refine AI ?_
  refine NilW.non (by intro e0; rw [e0] at hr; simp at hr) ?_
  try simp (maxSteps:=9^9) only[go_sem]
  repeat refine AI ?_
  repeat refine AI ?_
  refine cw c2 ?_
  try simp (maxSteps:=9^9) only[go_sem]
  repeat refine AI ?_
  try simp (maxSteps:=9^9) only[go_sem,d1,d2]
  repeat refine AI ?_
  try simp (maxSteps:=9^9) only[go_sem,d1,d2]
  all_goals repeat refine AI ?_
  all_goals first|kernel_rfl|omega|rfl
noncomputable def arN (s:DSc) (h:Int):List (List DV):=if sceneB s && hdB h then arsD s h else []
theorem arN_t {s:DSc} {h:Int} (e:(sceneB s && hdB h)=true):arN s h=arsD s h:=if_pos e
theorem arN_f {s:DSc} {h:Int} (e:(sceneB s && hdB h)=false):arN s h=[]:=if_neg (by rw [e]; decide)
noncomputable def arI (s:DSc) (h:Int) (i:Nat):List (List DV):=(s.2.2.2.1.take i).map (obsD (robS s h))
theorem arI_len {s:DSc} {h:Int} {i:Nat} (hi:i<=s.2.2.2.1.length):(arI s h i).length=i:=by unfold arI; rw [List.length_map,List.length_take]; omega
theorem arI_step {s:DSc} {h:Int} {i:Nat} (hi:i < s.2.2.2.1.length):arI s h (i+1)=arI s h i++[obsD (robS s h) (nth (t:=.slice tVec) s.2.2.2.1 i)]:=by
 unfold arI
 rw [List.take_succ_eq_append_getElem hi,List.map_append,nth_lt (t:=.slice tVec) hi]; rfl
theorem arI_all (s:DSc) (h:Int):arI s h s.2.2.2.1.length=arsD s h:=by unfold arI arsD; rw [List.take_length]
set_option maxHeartbeats 1000000 in
theorem BlockedAreasI_fn (s:DSc) (h:Int):Fn Tryz.prog 85 [⟨tScene,s⟩,⟨.int,h⟩] true [⟨tVecSS,arN s h⟩]:=by
 cases e:sceneB s && hdB h
 ·rw [arN_f e]
  have c1:=RobotAtI_nil s h e
  refine fe Tryz.func85 Tryz.ntmps85 Tryz.results85 fun hwf=>?_
  try simp (maxSteps:=9^9) only[go_sem]
  repeat refine AI ?_
  repeat refine AI ?_
  refine cw c1 ?_
  try simp (maxSteps:=9^9) only[go_sem]
  all_goals repeat refine AI ?_
  all_goals first|kernel_rfl|omega|rfl
 ·have es:=(Bool.and_eq_true_iff.1 e).1
  have eh:0<=h/\h<=3:=of_decide_eq_true (Bool.and_eq_true_iff.1 e).2
  have hr:=robS_len es h
  have hno:=(scene_p es).nobs
  have c1:=(RobotAtI_fn s h es eh).sh
  rw [arN_t e]
  refine fe Tryz.func85 Tryz.ntmps85 Tryz.results85 fun hwf=>?_
  try simp (maxSteps:=9^9) only[go_sem]
  repeat refine AI ?_
  repeat refine AI ?_
  refine cw c1 ?_
  try simp (maxSteps:=9^9) only[go_sem]
  repeat refine AI ?_
  refine NilW.non (by intro e0; rw [e0] at hr; simp at hr) ?_
  try simp (maxSteps:=9^9) only[go_sem]
  repeat refine AI ?_
  refine LoopG.intro _ _ _ (fun i:Nat=>⟨[(5,.sl tVec (robS s h)),(6,.row 1 0),(16,.sl (.slice tVec) s.2.2.2.1),(17,.sc (.int .i64 s.2.2.2.1.length)),(18,.sc (.int .i64 i))],[(1,.row 25 (.slice tVec) 0 true (arI s h i))]⟩) (fun i=>i<=s.2.2.2.1.length) (fun i=>s.2.2.2.1.length - i) 0 ?_ (Nat.zero_le _) ?_
  ·exact WK
  ·rintro i hi
   try simp (maxSteps:=9^9) only[go_sem]
   refine CondW_dec (fun hA=>?_) (fun hA=>?_)
   ·have hlt:i < s.2.2.2.1.length:=by omega
    have hal:=arI_len (s:=s) (h:=h) hi
    have c2:=ObstacleForI_fn (robS s h) (nth (t:=.slice tVec) s.2.2.2.1 i) (robS_sm es h) ((scene_p es).obs _ (nth_memT (t:=.slice tVec) hlt)) (by decide)
    try simp (maxSteps:=9^9) only[go_sem]
    repeat refine AI ?_
    repeat refine AI ?_
    refine cw c2 ?_
    try simp (maxSteps:=9^9) only[go_sem]
    try simp (maxSteps:=9^9) only[go_sem,hal]
    repeat refine AI ?_
    refine LoopK.mk (i+1) ?_ (by omega) (by omega)
    rw [arI_step hlt]
    exact WK
   ·rw [show arsD s h=arI s h i by rw [show i=s.2.2.2.1.length by omega,arI_all]]
    try simp (maxSteps:=9^9) only[go_sem]
    all_goals repeat refine AI ?_
    all_goals first|kernel_rfl|omega|rfl
theorem indexFunc_vsC_fn (F:FuncId) (A:Ty) (x:A.den) (p:(List DV)->Bool) (l:List (List DV)) (hF:∀ y ∈ l,Fn Tryz.prog F (⟨(.slice tVec),y⟩ :: capD A x) false [⟨.bool,p y⟩]):Fn Tryz.prog 80 [⟨.slice (.slice tVec),l⟩,⟨.ext (.clo F) A,some x⟩] false [⟨.int,ixf (t:=(.slice tVec)) p l⟩]:=by
 refine fe Tryz.func80 Tryz.ntmps80 Tryz.results80 fun hwf=>?_
 have hl:l.length<=9223372036854775807:=(hwf ⟨.slice (.slice tVec),l⟩ (by simp)).1
 try simp (maxSteps:=9^9) only[go_sem]
 refine LoopG.intro _ _ _ (fun i:Nat=>⟨[(0,.sl (.slice tVec) l),(1,.ex (.clo F) A (some x)),(7,.sc (.int .i64 l.length)),(8,.sc (.int .i64 i))],[]⟩) (fun i=>∀ j < i,j < l.length->p (nth (t:=(.slice tVec)) l j)=false) (fun i=>l.length - i) 0 ?_ (fun j h=>by simp at h) ?_
 ·exact WK
 ·rintro i h2
  try simp (maxSteps:=9^9) only[go_sem]
  refine CondW_dec (fun h3=>?_) (fun h3=>?_)
  ·have c1:=hF (nth (t:=(.slice tVec)) l i) (nth_memT (t:=(.slice tVec)) (by omega))
   try simp (maxSteps:=9^9) only[go_sem]
   repeat refine AI ?_
   repeat refine AI ?_
   refine CallD.mk (c1) ?_
   try simp (maxSteps:=9^9) only[go_sem]
   refine CondW_b (fun h4=>?_) (fun h4=>?_)
   ·try simp (maxSteps:=9^9) only[go_sem]
    exact (ixf_at (by omega) h4 (fun j hj=>h2 j hj (by omega))).symm
   ·try simp (maxSteps:=9^9) only[go_sem]
    repeat refine AI ?_
    refine LoopK.mk (i+1) ?_ (fun j hj hl=>?_) (by omega)
    ·exact WK
    ·by_cases hj2:j < i
     ·exact h2 j hj2 hl
     ·rw [show j=i by omega]; exact h4
  ·try simp (maxSteps:=9^9) only[go_sem]
   exact (ixf_none fun j hj=>h2 j (by omega) hj).symm
theorem containsFunc_vsC_fn (F:FuncId) (A:Ty) (x:A.den) (p:(List DV)->Bool) (l:List (List DV)) (hF:∀ y ∈ l,Fn Tryz.prog F (⟨(.slice tVec),y⟩ :: capD A x) false [⟨.bool,p y⟩]):Fn Tryz.prog 39 [⟨.slice (.slice tVec),l⟩,⟨.ext (.clo F) A,some x⟩] false [⟨.bool,l.any p⟩]:=by
 have c1:=indexFunc_vsC_fn F A x p l hF
 refine fe Tryz.func39 Tryz.ntmps39 Tryz.results39 fun hwf=>?_
 try simp (maxSteps:=9^9) only[go_sem]
 repeat refine AI ?_
 refine cw c1 ?_
 try simp (maxSteps:=9^9) only[go_sem]
 exact ixf_any
end Go.Proofs.YtcbionahcldlnaaGreat.DW

namespace Go.Proofs.YtcbionahcldlnaaGreat.DW
open Go.RowKit
def rmB (r d:Int):Bool:=decide (0 < d) && decide (r < d * d)
def rchD (s:DSc):Int:=rchI s.2.2.1 s.2.2.1.length
noncomputable def turnB (s:DSc) (v:DV):Bool:=rmB (rchD s) (v.1 - s.1.1) && (rmB (rchD s) (s.2.1.1 - v.1) && (rmB (rchD s) (v.2 - s.1.2) && (rmB (rchD s) (s.2.1.2 - v.2) && !(s.2.2.2.1.any fun l=>discB l (ptV v) (rchD s)))))
noncomputable def otI (s:DSc):Nat->List Int
 | 0=>[]
 | i+1=>if turnB s (nth (t:=tVec) s.2.2.2.2 i) then otI s i++[(i:Int)] else otI s i
noncomputable def otD (s:DSc):List Int:=otI s s.2.2.2.2.length
theorem otI_len (s:DSc):∀ i,(otI s i).length<=i
 | 0=>by simp [otI]
 | i+1=>by
  have:=otI_len s i
  unfold otI
  split
  ·simp; omega
  ·omega
theorem rch_b {s:DSc} (hs:sceneB s=true):0<=rchD s/\rchD s<=1000000:=by
 have h1:=(scene_p hs).rob
 have h2:∀ i,i<=s.2.2.1.length->0<=rchI s.2.2.1 i/\rchI s.2.2.1 i<=800:=by
  intro i
  induction i with
  | zero=>intro _; unfold rchI; omega
  | succ i ih =>
   intro hi
   have h3:=ih (by omega)
   obtain ⟨b1,b2,b3,b4⟩:=inB_b (h1.ins _ (nth_mem (i:=i) (by omega)))
   have h4:=sqI_le (k:=20) b1 b2
   have h5:=sqI_le (k:=20) b3 b4
   have h6:=sq_nn (nth (t:=tVec) s.2.2.1 i).1
   have h7:=sq_nn (nth (t:=tVec) s.2.2.1 i).2
   unfold rchI
   omega
 have:=h2 _ (Nat.le_refl _)
 unfold rchD
 omega
def dsT (s:DSc) (v:DV):List Int:=[v.1 - s.1.1,s.2.1.1 - v.1,v.2 - s.1.2,s.2.1.2 - v.2]
noncomputable def obT (s:DSc) (v:DV):Bool:=s.2.2.2.1.any fun l=>discB l (ptV v) (rchD s)
theorem turn_eq (s:DSc) (v:DV):turnB s v=((dsT s v).all (rmB (rchD s)) && !obT s v):=by
 unfold turnB dsT obT
 simp only [List.all_cons,List.all_nil,Bool.and_true,Bool.and_assoc]
theorem dsT_b {s:DSc} (hs:sceneB s=true) {v:DV} (hv:inB 200 v=true):∀ d ∈ dsT s v,-400<=d/\d<=400:=by
 have h1:=inB_b (scene_p hs).low
 have h2:=inB_b (scene_p hs).high
 have h3:=inB_b hv
 unfold dsT
 intro d hd
 simp only [List.mem_cons,List.not_mem_nil,or_false] at hd
 omega
theorem inB_ok {v:DV} (h:inB 200 v=true):okV v=true:=by
 have:=inB_b h
 exact okV_of (by omega) (by omega) (by omega) (by omega)
theorem canTurnC_fn (l:List DV) (v:DV) (n:Int) (hl:polyP l) (hn:0<=n/\n<=1000000):Fn Tryz.prog 82 [⟨.slice tVec,l⟩,⟨.ext .ref tVec,some v⟩,⟨.ext .ref .int,some n⟩] false [⟨.bool,discB l (ptV v) n⟩]:=by
 have c1:=PointOfI_fn v
 have c2:=DiscTouchesI_fn l (ptV v) n hl hn
 refine fe Tryz.func82 Tryz.ntmps82 Tryz.results82 fun hwf=>?_
 try simp (maxSteps:=9^9) only[go_sem]
 repeat refine AI ?_
 repeat refine AI ?_
 refine cw c1 ?_
 try simp (maxSteps:=9^9) only[go_sem]
 repeat refine AI ?_
 repeat refine AI ?_
 refine cw c2 ?_
 try simp (maxSteps:=9^9) only[go_sem]
 all_goals repeat refine AI ?_
 all_goals first|kernel_rfl|omega|rfl
set_option maxHeartbeats 2000000 in
theorem CanTurnI_fn (s:DSc) (v:DV) (hs:sceneB s=true) (hv:inB 200 v=true):Fn Tryz.prog 43 [⟨tScene,s⟩,⟨tVec,v⟩] false [⟨.bool,turnB s v⟩]:=by
 have c1:=IsValidSceneI_fn s
 rw [hs] at c1
 have c2:=isVec_fn v
 rw [inB_ok hv] at c2
 have hr:=rch_b hs
 have c3:=ReachSquareI_fn s.2.2.1 (scene_p hs).rob.poly
 rw [show rchI s.2.2.1 s.2.2.1.length=rchD s from rfl] at c3
 have hd:=dsT_b hs hv
 have h1:=inB_b (scene_p hs).low
 have h2:=inB_b (scene_p hs).high
 have h3:=inB_b hv
 have c4:=containsFunc_vsC_fn 82 (.prod (.ext .ref tVec) (.ext .ref .int)) (some v,some (rchD s)) (fun l=>discB l (ptV v) (rchD s)) s.2.2.2.1 (fun y hy=>canTurnC_fn y v _ ((scene_p hs).obs y hy).poly hr)
 rw [turn_eq]
 unfold obT
 refine fe Tryz.func43 Tryz.ntmps43 Tryz.results43 fun hwf=>?_
 try simp (maxSteps:=9^9) only[go_sem]
 repeat refine AI ?_
 repeat refine AI ?_
 refine cw c1 ?_
 try simp (maxSteps:=9^9) only[go_sem]
 repeat refine AI ?_
 repeat refine AI ?_
 refine cw c2 ?_
 try simp (maxSteps:=9^9) only[go_sem]
 repeat refine AI ?_
 repeat refine AI ?_
 refine cw c3 ?_
 try simp (maxSteps:=9^9) only[go_sem]
 repeat refine AI ?_
 refine LoopG.intro _ _ _ (fun i:Nat=>⟨[(2,.ptr 0 0),(3,.ptr 1 0),(5,.ptr 2 0),(43,.row 3 0),(44,.sc (.int .i64 4)),(45,.sc (.int .i64 i))],[(0,.box (cel tScene s)),(1,.box (cel tVec v)),(2,.box [.sc (.int .i64 (rchD s))]),(3,.row 3 .int 0 true (dsT s v))]⟩) (fun i=>i<=4/\∀ j,j < i->rmB (rchD s) (ni (dsT s v) j)=true) (fun i=>4 - i) 0 ?_ ⟨Nat.zero_le _,fun j h=>absurd h (Nat.not_lt_zero _)⟩ ?_
 ·unfold dsT
  exact WK
 ·rintro i ⟨hi,hall⟩
  have hlen:(dsT s v).length=4:=rfl
  try simp (maxSteps:=9^9) only[go_sem]
  refine CondW_dec (fun hA=>?_) (fun hA=>?_)
  ·have hlt:i < (dsT s v).length:=by omega
   have hb:=hd (ni (dsT s v) i) (by rw [ni_lt hlt]; exact List.getElem_mem hlt)
   have hm:=mul_bd (x:=ni (dsT s v) i) (y:=ni (dsT s v) i) (by omega) (by omega) (by omega) (by omega)
   by_cases e1:ni (dsT s v) i<=0
   ·have d1:=decide_eq_true e1
    have e:(dsT s v).all (rmB (rchD s))=false:=by
     rw [List.all_eq_false]
     refine ⟨ni (dsT s v) i,by rw [ni_lt hlt]; exact List.getElem_mem hlt,?_⟩
     unfold rmB
     rw [decide_eq_false (by omega),Bool.false_and]; decide
    rw [e,Bool.false_and]
    try simp (maxSteps:=9^9) only[go_sem,hlen]
    repeat refine AI ?_
    try simp (maxSteps:=9^9) only[go_sem,d1]
    all_goals repeat refine AI ?_
    all_goals first|kernel_rfl|omega|rfl
   ·have d1:=decide_eq_false e1
    by_cases e2:ni (dsT s v) i * ni (dsT s v) i<=rchD s
    ·have d2:=decide_eq_true e2
     have e:(dsT s v).all (rmB (rchD s))=false:=by
      rw [List.all_eq_false]
      refine ⟨ni (dsT s v) i,by rw [ni_lt hlt]; exact List.getElem_mem hlt,?_⟩
      unfold rmB
      rw [decide_eq_false (p:=rchD s < _) (by omega),Bool.and_false]; decide
     rw [e,Bool.false_and]
     try simp (maxSteps:=9^9) only[go_sem,hlen]
     repeat refine AI ?_
     try simp (maxSteps:=9^9) only[go_sem,d1]
     repeat refine AI ?_
     try simp (maxSteps:=9^9) only[go_sem,d2]
     all_goals repeat refine AI ?_
     all_goals first|kernel_rfl|omega|rfl
    ·have d2:=decide_eq_false e2
     try simp (maxSteps:=9^9) only[go_sem,hlen]
     repeat refine AI ?_
     try simp (maxSteps:=9^9) only[go_sem,d1]
     repeat refine AI ?_
     try simp (maxSteps:=9^9) only[go_sem,d2]
     repeat refine AI ?_
     refine LoopK.mk (i+1) ?_ ⟨by omega,fun j hj=>?_⟩ (by omega)
     ·exact WK
     ·by_cases h:j < i
      ·exact hall j h
      ·rw [show j=i by omega]
       unfold rmB
       rw [decide_eq_true (by omega),decide_eq_true (by omega)]; rfl
  ·have e:(dsT s v).all (rmB (rchD s))=true:=by
    rw [List.all_eq_true]
    intro d hdm
    obtain ⟨j,hj,rfl⟩:=List.getElem_of_mem hdm
    have:=hall j (by omega)
    rwa [ni_lt hj] at this
   rw [e,Bool.true_and]
   try simp (maxSteps:=9^9) only[go_sem]
   repeat refine AI ?_
   repeat refine AI ?_
   refine CallK.mk (c4) ?_
   try simp (maxSteps:=9^9) only[go_sem]
   all_goals repeat refine AI ?_
   all_goals first|kernel_rfl|omega|rfl
set_option maxHeartbeats 1000000 in
theorem OpenTablesI_fn (s:DSc) (hs:sceneB s=true):Fn Tryz.prog 15 [⟨tScene,s⟩] true [⟨tInts,otD s⟩]:=by
 have c1:=IsValidSceneI_fn s
 rw [hs] at c1
 have hnt:=(scene_p hs).ntab
 refine fe Tryz.func15 Tryz.ntmps15 Tryz.results15 fun hwf=>?_
 try simp (maxSteps:=9^9) only[go_sem]
 repeat refine AI ?_
 repeat refine AI ?_
 refine cw c1 ?_
 try simp (maxSteps:=9^9) only[go_sem]
 repeat refine AI ?_
 refine LoopG.intro _ _ _ (fun i:Nat=>⟨[(1,.ptr 0 0),(3,.row 1 0),(11,.sl tVec s.2.2.2.2),(12,.sc (.int .i64 s.2.2.2.2.length)),(13,.sc (.int .i64 i))],[(0,.box (cel tScene s)),(1,.row 3 .int 0 true (otI s i))]⟩) (fun i=>i<=s.2.2.2.2.length) (fun i=>s.2.2.2.2.length - i) 0 ?_ (Nat.zero_le _) ?_
 ·exact WK
 ·rintro i hi
  have hol:=otI_len s i
  try simp (maxSteps:=9^9) only[go_sem]
  refine CondW_dec (fun hA=>?_) (fun hA=>?_)
  ·have hlt:i < s.2.2.2.2.length:=by omega
   have c2:=CanTurnI_fn s (nth (t:=tVec) s.2.2.2.2 i) hs ((scene_p hs).tabs _ (nth_mem hlt))
   cases ht:turnB s (nth (t:=tVec) s.2.2.2.2 i)<;>rw [ht] at c2
   ·try simp (maxSteps:=9^9) only[go_sem]
    repeat refine AI ?_
    repeat refine AI ?_
    refine cw c2 ?_
    try simp (maxSteps:=9^9) only[go_sem]
    repeat refine AI ?_
    refine LoopK.mk (i+1) ?_ (by omega) (by omega)
    rw [show otI s (i+1)=otI s i from if_neg (by rw [ht]; decide)]
    exact WK
   ·try simp (maxSteps:=9^9) only[go_sem]
    repeat refine AI ?_
    repeat refine AI ?_
    refine cw c2 ?_
    try simp (maxSteps:=9^9) only[go_sem]
    repeat refine AI ?_
    refine LoopK.mk (i+1) ?_ (by omega) (by omega)
    rw [show otI s (i+1)=otI s i++[(i:Int)] from if_pos ht]
    exact WK
  ·rw [show otD s=otI s i by unfold otD; rw [show i=s.2.2.2.2.length by omega]]
   try simp (maxSteps:=9^9) only[go_sem]
   all_goals repeat refine AI ?_
   all_goals first|kernel_rfl|omega|rfl
@[go_sem] theorem bts_intS:bts Tryz.prog 31=some 24:=by kernel_rfl
def rdD (s:DSn) (S:List DSl) (op:List Int):List AV:=[.sc (.int .i64 s.1.1),.sc (.int .i64 s.1.2),.sc (.int .i64 s.2.1.1),.sc (.int .i64 s.2.1.2),.sl tVec s.2.2.1,.sl (.slice tVec) s.2.2.2.1,.sl tVec s.2.2.2.2,.sl tSlice S,.sl .int op]
theorem rdD_plain {s:DSn} {S:List DSl} {op:List Int}:∀ v ∈ rdD s S op,plainC v:=by
 intro v hv
 simp only [rdD,List.mem_cons,List.mem_nil_iff,or_false] at hv
 rcases hv with rfl|rfl|rfl|rfl|rfl|rfl|rfl|rfl|rfl<;>trivial
theorem ptC_plain {p:DP}:∀ v ∈ cel tPoint p,plainC v:=by
 intro v hv
 simp only [cel,Ty.isAgg,List.cons_append,List.nil_append,List.mem_cons,List.mem_nil_iff,or_false] at hv
 rcases hv with rfl|rfl|rfl|rfl|rfl|rfl<;>trivial
def srI (L:List (List Int)):Nat->List (List Int)
 | 0=>L
 | i+1=>(srI L i).set i (srtR (nth (t:=tInts) (srI L i) i))
theorem srI_len {L:List (List Int)}:∀ i,(srI L i).length=L.length
 | 0=>rfl
 | i+1=>by rw [srI,List.length_set,srI_len i]
theorem srI_get {L:List (List Int)}:∀ (i j:Nat),(srI L i)[j]? = if j < i then (L[j]?).map srtR else L[j]?
 | 0,j=>by rw [if_neg (by omega)]; rfl
 | i+1,j=>by
  rw [srI,List.getElem?_set]
  by_cases e:i=j
  ·subst e
   have e2:nth (t:=tInts) (srI L i) i=(L[i]?).getD []:=by
    show ((srI L i).getD i _)=_
    rw [List.getD_eq_getElem?_getD,srI_get i i,if_neg (by omega)]; rfl
   rw [if_pos rfl,e2,srI_len,if_pos (show i < i+1 by omega)]
   by_cases h:i < L.length
   ·rw [if_pos h,List.getElem?_eq_getElem h]; rfl
   ·rw [if_neg h,List.getElem?_eq_none (by omega)]; rfl
  ·rw [if_neg e,srI_get i j]
   by_cases h:j < i
   ·rw [if_pos h,if_pos (by omega)]
   ·rw [if_neg h,if_neg (by omega)]
theorem srI_all {L:List (List Int)}:srI L L.length=L.map srtR:=by
 refine List.ext_getElem? fun j=>?_
 rw [srI_get,List.getElem?_map]
 by_cases h:j < L.length
 ·rw [if_pos h]
 ·rw [if_neg h,List.getElem?_eq_none (by omega)]; rfl
set_option maxHeartbeats 8000000 in
theorem connect_fn (s:DSn) (S:List DSl) (op:List Int) (hS:SlP S) (hop:∀ k ∈ op,0<=k/\k < (s.2.2.2.2.length:Int)) (htb:∀ v ∈ s.2.2.2.2,okV v=true) (hol:op.length<=1000):FnA Tryz.prog 17 [.ptr 0 0] [(0,.box (rdD s S op++[.sc (.slice none 0 0)]))] (.tup []) [(0,.box (rdD s S op++[.sl (.slice .int) (lnkD S s.2.2.2.2 op)]))]:=by
 have c1:=RegionCount_fn s S op (by rw [hS.four]; omega) hS.len
 have hfr:=frN_le hS.len S.length (Nat.le_refl _)
 have hS4:=hS.four
 have hlenK:=fun q=>cnK_len (S:=S) (tb:=s.2.2.2.2) (op:=op) q
 have hrowK:=fun q=>cnK_row hS (tb:=s.2.2.2.2) (op:=op) q
 have hK0:∀ i (h:i < (cnK S s.2.2.2.2 op 0).length),(cnK S s.2.2.2.2 op 0)[i]=[]:=fun i h=>List.getElem_replicate ..
 have hN4:frN S 4=frN S S.length:=by rw [hS4]
 generalize hN:frN S S.length=n at *
 unfold rdD
 refine fnA_enter tabOK mixes Tryz.func17 rfl rfl _ Tryz.ntmps17 _ Tryz.results17 (by simp) (by first|exact .inl rfl|exact .inr ⟨_,rfl⟩) fun β=>?_
 try simp (maxSteps:=9^9) only[go_sem]
 repeat refine AI ?_
 refine CallW.h 0 ((fun _=>c1)) ?_
 try simp (maxSteps:=9^9) only[go_sem]
 repeat refine AI ?_
 try simp (maxSteps:=9^9) only[go_sem]
 refine LoopG.intro _ _ _ (fun q:Nat=>⟨[(0,.ptr 0 0),(19,.sl .int op),(20,.sc (.int .i64 op.length)),(21,.sc (.int .i64 q))],tabM (some (β 0)) (rdc s S op n) 3 0 (cnK S s.2.2.2.2 op q)⟩) (fun q=>q<=op.length) (fun q=>op.length - q) 0 ?_ (Nat.zero_le _) ?_
 ·refine wk_nil (e:=3) n 0 _ _ (Nat.zero_add n) List.length_replicate (fun i h=>absurd h (Nat.not_lt_zero _)) (fun i _ hi=>by rw [List.getElem?_replicate,if_pos hi]) rfl (fun i h=>absurd h (Nat.not_lt_zero _)) (fun i _=>?_) fun σ' cs' k1 k2 k3 k4 k5=>?_
  ·show look (_ :: _ :: _ :: []) (i+2)=none
   rw [look_ne _ _ (by omega),look_ne _ _ (by omega),look_ne _ _ (by omega)]; rfl
  ·refine wk_loop (B:=[]) (n:=n) rdc_self (fun p hp=>by cases hp) List.nodup_nil (k2.trans rfl) k3 (k4.trans (hlenK 0).symm) (fun i hi=>?_) (fun rng=>?_) (fun rng=>trivial)
   ·have hi2:i < n:=by rw [<-hlenK 0]; exact hi
    exact ⟨0,(k5 i hi2).1,(k5 i hi2).2.trans (by rw [hK0 i hi])⟩
   ·rw [k1]
    try simp (maxSteps:=9^9) only[go_sem,tab_0,id]
    rfl
 ·rintro q hq
  have hLq:=hlenK q
  have hrq:=hrowK q
  have hnx:cnK S s.2.2.2.2 op (q+1)=cnH S (ptV (nth (t:=tVec) s.2.2.2.2 (ni op q).toNat)) (cnK S s.2.2.2.2 op q) 4:=rfl
  generalize hL:cnK S s.2.2.2.2 op q=L at *
  generalize hM:tabM (some (β 0)) (rdc s S op n) 3 0 L=M
  have m0:look M 0=some (.bx (some (β 0)) (rdc s S op n)):=by rw [<-hM]; exact tab_0
  have m1:look M 1=some (.box (hdlM 2 0 L)):=by rw [<-hM]; exact tab_1
  have mr:∀ i (h:i < L.length),look M (i+2)=some (.row 3 .int 0 true L[i]):=fun i h=>by rw [<-hM]; exact tab_r h
  have mf:fresh M=n+2:=by rw [<-hM,tab_fresh,hLq]
  try simp (maxSteps:=9^9) only[go_sem]
  refine CondW_dec (fun hA=>?_) (fun hA=>?_)
  ·have hlt:q < op.length:=by omega
   have hv:=hop (ni op q) (by rw [ni_lt hlt]; exact List.getElem_mem hlt)
   have cp:=PointOfI_fn (nth (t:=tVec) s.2.2.2.2 (ni op q).toNat)
   have hpk:=okPt_ptV (htb _ (nth_mem (i:=(ni op q).toNat) (by omega)))
   generalize ptV (nth (t:=tVec) s.2.2.2.2 (ni op q).toNat)=p at *
   try simp (maxSteps:=9^9) only[go_sem,m0]
   repeat refine AI ?_
   repeat refine AI ?_
   refine cw (cp.sh) ?_
   try simp (maxSteps:=9^9) only[go_sem]
   try simp (maxSteps:=9^9) only[go_sem,mf]
   refine LoopG.intro _ _ _ (fun h:Nat=>⟨[(0,.ptr 0 0),(4,.ptr (n+2) 0),(19,.sl .int op),(20,.sc (.int .i64 op.length)),(21,.sc (.int .i64 q)),(34,.sc (.int .i64 h))],[(n+2,.box (cel tPoint p))]++tabM (some (β 0)) (rdc s S op n) 3 0 (cnH S p L h)⟩) (fun h=>h<=4) (fun h=>4 - h) 0 ?_ (Nat.zero_le _) ?_
   ·refine wk_loop (n:=n) rdc_self (fun u hu=>?_) (List.nodup_cons.2 ⟨(fun h=>by cases h),List.nodup_nil⟩) ((look_ne _ _ (by omega)).trans ((look_ne _ _ (by omega)).trans m0)) ((look_ne _ _ (by omega)).trans ((look_ne _ _ (by omega)).trans m1)) hdlM_len (fun i hi=>⟨0,hdlM_get hi,(look_ne _ _ (by have:i < L.length:=hi; omega)).trans ((look_ne _ _ (by have:i < L.length:=hi; omega)).trans (mr i hi))⟩) (fun rng=>?_) (fun rng=>wkM_box ptC_plain (look_self ..))
    ·rw [List.mem_singleton.1 hu]
     show L.length+2<=n+2
     omega
    ·have f2:(0 == n+2)=false:=by simp
     try simp (maxSteps:=9^9) only[go_sem,tab_0,id,f2]
     rfl
   ·rintro h hh
    have hLh:=(cnH_len (S:=S) (p:=p) (L:=L) h).trans hLq
    have hrh:=cnH_row hS (by rw [hLq,hN4]) hrq h hh (p:=p)
    have hnx2:cnH S p L (h+1)=lnkO (cnH S p L h) (rgO S h p) (rgO S ((h+1) % 4) p):=rfl
    generalize hL2:cnH S p L h=L2 at *
    generalize hM2:tabM (some (β 0)) (rdc s S op n) 3 0 L2=M2
    have m0':look M2 0=some (.bx (some (β 0)) (rdc s S op n)):=by rw [<-hM2]; exact tab_0
    have m1':look M2 1=some (.box (hdlM 2 0 L2)):=by rw [<-hM2]; exact tab_1
    have mr':∀ i (h:i < L2.length),look M2 (i+2)=some (.row 3 .int 0 true L2[i]):=fun i h=>by rw [<-hM2]; exact tab_r h
    have mf':fresh M2=n+2:=by rw [<-hM2,tab_fresh,hLh]
    have f2:(0 == n+2)=false:=by simp
    have f3:(1 == n+2)=false:=by simp
    have f4:(n+2 == 0)=false:=by simp
    have f5:(n+2 == 1)=false:=by simp
    have f6:¬ (n+2+1<=n+2):=by omega
    try simp (maxSteps:=9^9) only[go_sem]
    refine CondW_dec (fun hB=>?_) (fun hB=>?_)
    ·have hh4:h < 4:=by omega
     have r1:=RegionOf_fn s S op h p hpk (by omega) (by omega) hS.len (ptX_abs hS hh4 p)
     have r2:=RegionOf_fn s S op ((h+1) % 4) p hpk (by omega) (by omega) hS.len (ptX_abs hS (by omega) p)
     have e4:((((h+1) % 4:Nat)):Int)=((h:Int)+1) % 4:=by omega
     rw [e4] at r2
     have two:=rg_two hS hh4 (by omega:(h+1) % 4 < 4) (by omega) p
     rw [hN4,<-hLh] at two
     have ck:=link_fn (some (β 0)) s S op L2 (rgO S h p) (rgO S ((h+1) % 4) p) two (fun l hl=>by have:=hrh l hl; omega) (by omega)
     rw [hLh] at ck
     generalize rgO S h p=ra at *
     generalize rgO S ((h+1) % 4) p=rb at *
     try simp (maxSteps:=9^9) only[go_sem,m0',m1',mf',f2,f3,f4,f5]
     repeat refine AI ?_
     repeat refine AI ?_
     refine CallW.h 0 ((fun _=>r1)) ?_
     try simp (maxSteps:=9^9) only[go_sem]
     try simp (maxSteps:=9^9) only[go_sem,m0',m1',mf',f2,f3,f4,f5]
     repeat refine AI ?_
     refine RemW.pos (by omega) (by omega) ?_
     try simp (maxSteps:=9^9) only[go_sem,m0',m1',mf',f2,f3,f4,f5]
     repeat refine AI ?_
     repeat refine AI ?_
     refine CallW.h 0 ((fun _=>r2)) ?_
     try simp (maxSteps:=9^9) only[go_sem]
     try simp (maxSteps:=9^9) only[go_sem,m0',m1',mf',f2,f3,f4,f5]
     repeat refine AI ?_
     refine CallW.ma ck ?_
     refine askA_tab rdc_self ((look_ne _ _ (by omega)).trans m0') ((look_ne _ _ (by omega)).trans m1') (fun i hi=>(look_ne _ _ (by have:i < L2.length:=hi; omega)).trans (mr' i hi)) lnkO_len.symm ?_
     try simp (maxSteps:=9^9) only[go_sem]
     refine And.intro (okTr_last (tr:=[([],[]),([],[]),([],[]),([],[0]),([],[]),([],[n+2]),([],[]),([],[0,1]),([],[]),([],[]),([],[0]),([],[]),([],[]),([],[]),([],[n+2]),([],[]),([],[0,1])]) (t:=([],[])) (by kernel_rfl) (by kernel_rfl)) ?_
     repeat refine AI ?_
     refine LoopK.mk (h+1) ?_ (by omega) (by omega)
     rw [hnx2]
     have hlo:(lnkO L2 ra rb).length=n:=by rw [lnkO_len]; exact hLh
     generalize lnkO L2 ra rb=L4 at *
     refine wk_loop (B:=[_]) (n:=n) rdc_self (fun u hu=>?_) (List.nodup_cons.2 ⟨(fun h=>by cases h),List.nodup_nil⟩) (by show look (tabM _ _ _ _ _++_) 0=_; rw [look_app,tab_0]; rfl) (by show look (tabM _ _ _ _ _++_) 1=_; rw [look_app,tab_1]; rfl) hdlM_len (fun i hi=>⟨1,hdlM_get hi,by show look (tabM _ _ _ _ _++_) (i+2)=_; rw [look_app,tab_r hi]; rfl⟩) (fun rng=>?_) (fun rng=>wkM_box ptC_plain (by show look (tabM _ _ _ _ _++_) (n+2)=_; rw [look_app,tab_none (by omega)]; exact look_self ..))
     ·rw [List.mem_singleton.1 hu]
      show L4.length+2<=n+2
      omega
     ·try simp (maxSteps:=9^9) only[go_sem,tab_0,id,f2]
      omega
    ·obtain rfl:h=4:=by omega
     try simp (maxSteps:=9^9) only[go_sem]
     repeat refine AI ?_
     refine LoopK.mk (q+1) ?_ (by omega) (by omega)
     rw [hnx,hL2]
     refine wk_loop (B:=[]) (n:=n) rdc_self (fun p hp=>by cases hp) List.nodup_nil ((look_ne _ _ (by omega)).trans m0') ((look_ne _ _ (by omega)).trans m1') hdlM_len (fun i hi=>⟨0,hdlM_get hi,(look_ne _ _ (by have:i < L2.length:=hi; omega)).trans (mr' i hi)⟩) (fun rng=>?_) (fun rng=>trivial)
     try simp (maxSteps:=9^9) only[go_sem,tab_0,id]
     omega
  ·obtain rfl:q=op.length:=by omega
   have hld:lnkD S s.2.2.2.2 op=srI L L.length:=by rw [srI_all,<-hL]; rfl
   rw [hld]
   try simp (maxSteps:=9^9) only[go_sem,m0,m1]
   refine LoopG.intro _ _ _ (fun i:Nat=>⟨[(0,.ptr 0 0),(60,.row 1 n),(61,.sc (.int .i64 n)),(62,.sc (.int .i64 i))],tabM (some (β 0)) (rdc s S op n) 3 0 (srI L i)⟩) (fun i=>i<=n) (fun i=>n - i) 0 ?_ (Nat.zero_le _) ?_
   ·refine wk_loop (B:=[]) (n:=n) rdc_self (fun p hp=>by cases hp) List.nodup_nil m0 m1 hdlM_len (fun i hi=>⟨0,hdlM_get hi,mr i hi⟩) (fun rng=>?_) (fun rng=>trivial)
    try simp (maxSteps:=9^9) only[go_sem,tab_0,tab_1,id]
    rfl
   ·rintro i hi
    have hrow:(srI L i)[i]? = L[i]?:=by rw [srI_get,if_neg (by omega)]
    have hsl:=srI_len (L:=L) i
    have hnx2:srI L (i+1)=(srI L i).set i (srtR (nth (t:=tInts) (srI L i) i)):=rfl
    generalize hL3:srI L i=L3 at *
    generalize hM3:tabM (some (β 0)) (rdc s S op n) 3 0 L3=M3
    have m0':look M3 0=some (.bx (some (β 0)) (rdc s S op n)):=by rw [<-hM3]; exact tab_0
    have m1':look M3 1=some (.box (hdlM 2 0 L3)):=by rw [<-hM3]; exact tab_1
    have mr':∀ i (h:i < L3.length),look M3 (i+2)=some (.row 3 .int 0 true L3[i]):=fun i h=>by rw [<-hM3]; exact tab_r h
    try simp (maxSteps:=9^9) only[go_sem]
    refine CondW_dec (fun hB=>?_) (fun hB=>?_)
    ·have hin:i < n:=by omega
     have ci:(hdlM 2 0 L3).getD i .junk=.row (i+2) 0:=by rw [List.getD_eq_getElem?_getD,hdlM_get (by omega)]; rfl
     have cl:(hdlM 2 0 L3).length=n:=by rw [hdlM_len]; omega
     have mi:=mr' i (by omega)
     have f2:(0 == i+2)=false:=by simp
     have f3:(1 == i+2)=false:=by simp
     have f4:(i+2 == 0)=false:=by simp
     have f5:(i+2 == 1)=false:=by simp
     have hr:=hrq _ (List.getElem_mem (show i < L.length by omega))
     have hrw:L3[i]'(by omega)=L[i]'(by omega):=by
      rw [List.getElem?_eq_getElem (by omega),List.getElem?_eq_getElem (by omega)] at hrow
      injection hrow
     have hnt:nth (t:=tInts) L3 i=L[i]'(by omega):=by rw [nth_lt (t:=tInts) (by omega)]; exact hrw
     rw [hrw] at mi
     rw [hnt] at hnx2
     generalize L[i]'(show i < L.length by omega)=l at *
     have cs:=sortI_fn l (by omega)
     have cc:=compactI_fn (l.mergeSort leZ) (by rw [List.length_mergeSort]; omega)
     try simp (maxSteps:=9^9) only[go_sem,m0',m1',mi,ci,cl,f2,f3,f4,f5,Nat.mul_one]
     repeat refine AI ?_
     refine CallW.r (k:=i+2) (ver:=0) (o:=true) cs ?_
     try simp (maxSteps:=9^9) only[go_sem,m0',m1',mi,ci,cl,f2,f3,f4,f5,Nat.mul_one]
     repeat refine AI ?_
     refine CallW.r (k:=i+2) (ver:=0) (o:=true) cc ?_
     try simp (maxSteps:=9^9) only[go_sem,m0',m1',mi,ci,cl,f2,f3,f4,f5,Nat.mul_one]
     repeat (refine And.intro (by omega) ?_)
     refine And.intro (okTr_ren (rn6 (i+2) (i+3) (i+4)) 6 (rn6_inj (by omega) (by omega) (by omega) (by omega) (by omega)) [([],[]),([],[]),([],[]),([],[0]),([],[]),([],[]),([2],[2,2]),([],[1]),([1],[1,1])] rfl (by kernel_rfl)) ?_
     repeat refine AI ?_
     refine LoopK.mk (i+1) ?_ (by omega) (by omega)
     have hi3:i < L3.length:=by omega
     have hl3:(L3.set i (srtR l)).length=n:=by rw [List.length_set]; omega
     have hgt:∀ j (h:j < (L3.set i (srtR l)).length),(L3.set i (srtR l))[j]=if i=j then srtR l else L3[j]'(by rw [List.length_set] at h; exact h):=fun j h=>List.getElem_set ..
     rw [hnx2]
     refine wk_loop (B:=[]) (n:=n) (cs:=(hdlM 2 0 L3).set i (.row (i+2) 1)) rdc_self (fun p hp=>by cases hp) List.nodup_nil ?_ ?_ ?_ (fun j hj=>?_) (fun rng=>?_) (fun rng=>trivial)
     ·show look (_ :: _ :: _ :: M3) 0=_
      rw [look_ne _ _ (by omega),look_ne _ _ (by omega),look_ne _ _ (by omega)]; exact m0'
     ·show look (_ :: _ :: _ :: M3) 1=_
      rw [look_self,set_tds (by rw [cl]; exact hin)]
     ·rw [List.length_set,cl,hl3]
     ·have hjn:j < L3.length:=by rw [List.length_set] at hj; exact hj
      rw [hgt j hj]
      show ∃ v,_/\look (_ :: _ :: _ :: M3) (j+2)=_
      rw [look_ne _ _ (by omega)]
      by_cases e:i=j
      ·subst e
       refine ⟨1,?_,?_⟩
       ·rw [List.getElem?_set,if_pos rfl,if_pos (by rw [cl]; exact hin)]
       ·rw [if_pos rfl,look_self]; rfl
      ·refine ⟨0,?_,?_⟩
       ·rw [List.getElem?_set,if_neg e]; exact hdlM_get hjn
       ·rw [if_neg e,look_ne _ _ (by omega),look_ne _ _ (by omega)]; exact mr' j hjn
     ·try simp (maxSteps:=9^9) only[go_sem,tab_0,tab_1,id]
      omega
    ·obtain rfl:i=n:=by omega
     try simp (maxSteps:=9^9) only[go_sem]
     rw [hLq,hL3]
     exact wk_done (D:=rdD s S op) rdD_plain m0' m1' hdlM_len (by omega) (fun i hi=>⟨0,hdlM_get hi,mr' i hi⟩)
theorem index_int_fn (l:List Int) (x:Int):Fn Tryz.prog 62 [⟨tInts,l⟩,⟨.int,x⟩] false [⟨.int,ixf (t:=.int) (fun y=>decide (x=y)) l⟩]:=by
 refine fe Tryz.func62 Tryz.ntmps62 Tryz.results62 fun hwf=>?_
 have hl:l.length<=9223372036854775807:=(hwf ⟨.slice (.int),l⟩ (by simp)).1
 try simp (maxSteps:=9^9) only[go_sem]
 refine LoopG.intro _ _ _ (fun i:Nat=>⟨[(0,.sl .int l),(1,.sc (.int .i64 x)),(7,.sc (.int .i64 l.length)),(8,.sc (.int .i64 i))],[]⟩) (fun i=>∀ j < i,j < l.length->decide (x=nth (t:=.int) l j)=false) (fun i=>l.length - i) 0 ?_ (fun j h=>by simp at h) ?_
 ·exact WK
 ·rintro i h2
  try simp (maxSteps:=9^9) only[go_sem]
  refine CondW_dec (fun h3=>?_) (fun h3=>?_)
  ·try simp (maxSteps:=9^9) only[go_sem]
   repeat refine AI ?_
   refine CondW_dec (fun h4=>?_) (fun h4=>?_)
   ·try simp (maxSteps:=9^9) only[go_sem]
    exact (ixf_at (t:=.int) (p:=fun y=>decide (x=y)) (by omega) (decide_eq_true h4) (fun j hj=>h2 j hj (by omega))).symm
   ·try simp (maxSteps:=9^9) only[go_sem]
    repeat refine AI ?_
    refine LoopK.mk (i+1) ?_ (fun j hj hl=>?_) (by omega)
    ·exact WK
    ·by_cases hj2:j < i
     ·exact h2 j hj2 hl
     ·rw [show j=i by omega]; exact decide_eq_false h4
  ·try simp (maxSteps:=9^9) only[go_sem]
   exact (ixf_none (t:=.int) (p:=fun y=>decide (x=y)) fun j hj=>h2 j (by omega) hj).symm
theorem contains_int_fn (l:List Int) (x:Int):Fn Tryz.prog 25 [⟨tInts,l⟩,⟨.int,x⟩] false [⟨.bool,l.any fun y=>decide (x=y)⟩]:=by
 have c1:=index_int_fn l x
 refine fe Tryz.func25 Tryz.ntmps25 Tryz.results25 fun hwf=>?_
 try simp (maxSteps:=9^9) only[go_sem]
 repeat refine AI ?_
 refine cw c1 ?_
 try simp (maxSteps:=9^9) only[go_sem]
 exact ixf_any
noncomputable def slS (s:DSn) (h:Int):DSl:=slcD h (opnB s h) (bxN s h) (arN s h)
theorem bxN_b {s:DSn} (hs:sceneB s=true) (h:Int):(((bxN s h).1.1).natAbs<=1000/\((bxN s h).1.2).natAbs<=1000)/\(((bxN s h).2.1).natAbs<=1000/\((bxN s h).2.2).natAbs<=1000):=by
 cases e:opnB s h
 ·rw [bxN_f e]; decide
 ·rw [bxN_t e]
  have:=box_b hs h
  have key:∀ {a b c d:Int},((-220<=a/\a<=220)/\(-220<=b/\b<=220))/\((-220<=c/\c<=220)/\(-220<=d/\d<=220))->((a.natAbs<=1000/\b.natAbs<=1000)/\(c.natAbs<=1000/\d.natAbs<=1000)):=by
   intro a b c d h; omega
  exact key this
theorem arN_p {s:DSn} (hs:sceneB s=true) (h:Int):∀ x ∈ arN s h,polyP x:=by
 cases e:sceneB s && hdB h
 ·rw [arN_f e]; intro x hx; cases hx
 ·rw [arN_t e]; exact ars_poly hs h
theorem arN_len {s:DSn} (hs:sceneB s=true) (h:Int):(arN s h).length<=4:=by
 cases e:sceneB s && hdB h
 ·rw [arN_f e]; exact Nat.zero_le _
 ·rw [arN_t e,ars_len]; exact (scene_p hs).nobs
theorem slS_fn {s:DSn} (hs:sceneB s=true) {h:Int} (hh:0<=h/\h<=3):Fn Tryz.prog 16 [⟨tScene,s⟩,⟨.int,h⟩] false [⟨tSlice,slS s h⟩]:=by
 have c1:=IsValidSceneI_fn s
 rw [hs] at c1
 exact SliceOf_fn (fun e=>bxN_f e) c1 hh (LimitsOfI_fn s h) (BlockedAreasI_fn s h) (bxN_b hs h) (fun x hx=>polyB_t (arN_p hs h x hx)) (arN_len hs h)
section
variable {h:Int} {o:Bool} {b:DV × DV} {a:List (List DV)}
theorem cllD_len (hp:∀ x ∈ a,polyB x=true) (ha:a.length<=4):(cllD b a).length<=150000:=by
 have h1:=evD_len (b:=b) hp ha
 have h2:=clI_len b a (evD b a) ha ((evD b a).length - 1)
 unfold cllD; omega
theorem wllD_len (hp:∀ x ∈ a,polyB x=true) (ha:a.length<=4):(wllD b a).length<=150000:=by
 have h1:=evD_len (b:=b) hp ha
 have h2:=wwI_len b a (evD b a) ha ((evD b a).length - 1)
 unfold wllD; omega
theorem drs_i {b:DV × DV} {a:List (List DV)}:∀ e ∈ drsD b a,e.1.toNat < (cllD b a).length:=fun e he=>by
 have h1:=drI_ok (cllD b a) (wllD b a) _ (Nat.le_refl _) e he
 have key:∀ (x:Int) (n:Nat),0<=x/\x < (n:Int)->x.toNat < n:=by intro x n h; omega
 exact key _ _ h1
theorem slc_T (hp:∀ x ∈ a,polyB x=true) (ha:a.length<=4):(slcD h o b a).2.2.2.2.2.2.2.length<=1048576:=by
 unfold slcD
 split
 ·have h1:=cllD_len (b:=b) hp ha
  have h2:=(poI_ok drs_i (cllD b a).length (ds:=drsD b a)).1
  show (ptsD (cllD b a).length (drsD b a)).length<=_
  unfold ptsD
  omega
 ·exact Nat.zero_le _
theorem slc_num:∀ v ∈ (slcD h o b a).2.2.2.2.2.2.2,v=-1\/(0<=v/\v < (cntD (slcD h o b a).2.2.2.2.2.2.2:Int)):=by
 unfold slcD
 split
 ·exact pts_lt drs_i
 ·intro v hv; cases hv
theorem slc_own (hb:(b.1.2).natAbs<=1000000/\(b.2.2).natAbs<=1000000) (hp:∀ x ∈ a,polyB x=true) (ha:a.length<=4):Fn Tryz.prog 26 [⟨tSlice,slcD h o b a⟩] false [⟨tSlice,slcD h o b a⟩]:=by
 have hT:=slc_T (h:=h) (o:=o) (b:=b) hp ha
 unfold slcD at hT ⊢
 cases o
 ·rw [if_neg (fun h=>by cases h)]
  exact ownSlice_fn' h false 0 0 0 0 [] [] [] [] [] (by decide) (fun x hx=>by cases hx) (fun x hx=>by cases hx) (fun x hx=>by cases hx) (by decide) (by decide) (by decide) (by decide)
 ·rw [if_pos rfl] at hT ⊢
  have h1:=cllD_len (b:=b) hp ha
  have h2:=wllD_len (b:=b) hp ha
  have h3:=drI_len (cllD b a) (wllD b a) (by omega) (cllD b a).length
  have h4:(drsD b a).length<=1000000000000:=by unfold drsD; omega
  have h5:∀ k ∈ cllD b a,gC k:=clI_ok hb _
  have h6:∀ w ∈ wllD b a,gW w:=wwI_ok hb _
  obtain ⟨⟨b1,b2⟩,b3,b4⟩:=b
  exact ownSlice_fn' h true b1 b2 b3 b4 a _ _ _ _ (by omega) (fun x hx=>Nat.le_trans (polyB_len (hp x hx)) (by decide)) h5 h6 (by omega) (by omega) h4 (Nat.le_trans hT (by decide))
end
noncomputable def slI4 (s:DSn):Nat->List DSl
 | 0=>[]
 | k+1=>slI4 s k++[slS s (k:Int)]
theorem slI4_len (s:DSn):∀ k,(slI4 s k).length=k
 | 0=>rfl
 | k+1=>by rw [slI4,List.length_append,slI4_len s k]; rfl
theorem slI4_mem {s:DSn}:∀ {k:Nat} {x:DSl},x ∈ slI4 s k->∃ j < k,x=slS s (j:Nat)
 | 0,_,h=>by cases h
 | k+1,x,h=>by
  rcases List.mem_append.1 (show x ∈ slI4 s k++_ from h) with h|h
  ·obtain ⟨j,hj,e⟩:=slI4_mem h
   exact ⟨j,by omega,e⟩
  ·exact ⟨k,by omega,List.mem_singleton.1 h⟩
theorem slI4_nth (s:DSn):∀ {k j:Nat},j < k->nth (t:=tSlice) (slI4 s k) j=slS s (j:Nat)
 | 0,_,h=>by omega
 | k+1,j,h=>by
  show ((slI4 s k++[slS s (k:Int)])[j]?).getD _=_
  by_cases e:j < k
  ·rw [List.getElem?_append_left (by rw [slI4_len]; exact e)]
   exact slI4_nth s e
  ·obtain rfl:j=k:=by omega
   rw [List.getElem?_append_right (by rw [slI4_len]; exact Nat.le_refl _),slI4_len,Nat.sub_self]; rfl
theorem slS_own {s:DSn} (hs:sceneB s=true) (h:Int):Fn Tryz.prog 26 [⟨tSlice,slS s h⟩] false [⟨tSlice,slS s h⟩]:=by
 have hb:=bxN_b hs h
 exact slc_own ⟨by omega,by omega⟩ (fun x hx=>polyB_t (arN_p hs h x hx)) (arN_len hs h)
theorem slP4 {s:DSn} (hs:sceneB s=true):SlP (slI4 s 4):=⟨slI4_len s 4,fun x hx=>by
 obtain ⟨j,_,rfl⟩:=slI4_mem hx
 exact slc_T (fun x hx=>polyB_t (arN_p hs _ x hx)) (arN_len hs _),fun x hx=>by
 obtain ⟨j,_,rfl⟩:=slI4_mem hx
 exact slc_num⟩
noncomputable def rdOf (s:DSn):DRd:=(s,slI4 s 4,otD s,lnkD (slI4 s 4) s.2.2.2.2 (otD s))
theorem ot_mem {s:DSn}:∀ {i:Nat} {k:Int},k ∈ otI s i->0<=k/\k < (i:Int)
 | 0,_,h=>by cases h
 | i+1,k,h=>by
  unfold otI at h
  split at h
  ·rcases List.mem_append.1 h with h|h
   ·have:=ot_mem h; omega
   ·rw [List.mem_singleton.1 h]; omega
  ·have:=ot_mem h; omega
theorem slS_frm {s t:DSn} {h:Int} (he:frmP (slS s h) (frmE (opnB t) (bxN t) (arN t) h)):slS s h=slS t h:=by
 obtain ⟨_,h2,h3,h4⟩:=he
 unfold slS frmE slcD at *
 cases e1:opnB s h<;>cases e2:opnB t h<;>rw [e1,e2] at h2 h3 h4<;>simp only [Bool.false_eq_true,if_false,if_true] at h2 h3 h4 ⊢
 all_goals first|(exact absurd h2 (by decide))|(rw [h3,h4])
theorem slS_self (s:DSn) (h:Int):frmP (slS s h) (frmE (opnB s) (bxN s) (arN s) h):=by
 unfold slS frmE slcD
 cases e1:opnB s h
 ·rw [bxN_f e1]; exact ⟨rfl,rfl,rfl,rfl⟩
 ·exact ⟨rfl,rfl,rfl,rfl⟩
theorem chg_mem {em:Int->DSl} {l:List DSl}:∀ {k h:Nat},(h:Int) ∈ chgD em l k ↔ h < k/\¬ (h < l.length/\frmP (nth (t:=tSlice) l h) (em h))
 | 0,h=>⟨(fun h=>by cases h),fun h=>by omega⟩
 | k+1,h=>by
  have ih:=chg_mem (em:=em) (l:=l) (k:=k) (h:=h)
  rw [chgD]
  split
  ·rename_i hc
   rw [ih]
   constructor
   ·rintro ⟨h1,h2⟩; exact ⟨by omega,h2⟩
   ·rintro ⟨h1,h2⟩
    refine ⟨?_,h2⟩
    rcases Nat.lt_or_eq_of_le (Nat.le_of_lt_succ h1) with h3|h3
    ·exact h3
    ·subst h3; exact absurd hc h2
  ·rename_i hc
   rw [List.mem_append,List.mem_singleton,ih]
   constructor
   ·rintro (⟨h1,h2⟩|h1)
    ·exact ⟨by omega,h2⟩
    ·obtain rfl:h=k:=by omega
     exact ⟨by omega,hc⟩
   ·rintro ⟨h1,h2⟩
    by_cases e:h=k
    ·exact .inr (by rw [e])
    ·exact .inl ⟨by omega,h2⟩
theorem chg_self (s:DSn):∀ k,k<=4->chgD (frmE (opnB s) (bxN s) (arN s)) (slI4 s 4) k=[]
 | 0,_=>rfl
 | k+1,hk=>by
  have h2:frmP (nth (t:=tSlice) (slI4 s 4) k) (frmE (opnB s) (bxN s) (arN s) (k:Int)):=by
   rw [slI4_nth s (by omega)]
   exact slS_self s _
  rw [chgD,if_pos ⟨by rw [slI4_len]; omega,h2⟩,chg_self s k (by omega)]
noncomputable def chgH (r:DRd) (s:DSc):List Int:=if sceneB s=true then chgD (frmE (opnB s) (bxN s) (arN s)) r.2.1 4 else []
theorem chgH_len (r:DRd) (s:DSc):(chgH r s).length<=4:=by
 unfold chgH
 split
 ·exact chgD_len _ _ 4
 ·exact Nat.zero_le _
theorem ChangedI_fn (r:DRd) (s:DSc):Fn Tryz.prog 10 [⟨tRoad,r⟩,⟨tScene,s⟩] true [⟨tInts,chgH r s⟩] :=
 ChangedI_g r (IsValidSceneI_fn s) (emptySlice_fn (fun h e=>bxN_f e) (LimitsOfI_fn s) (BlockedAreasI_fn s))
theorem any_mem {l:List Int} {x:Int}:(l.any fun y=>decide (x=y))=true ↔ x ∈ l:=by
 rw [List.any_eq_true]
 constructor
 ·rintro ⟨y,hy,h⟩; have:=of_decide_eq_true h; rwa [this]
 ·intro h; exact ⟨x,h,decide_eq_true rfl⟩
theorem tb_ok {s:DSn} (hs:sceneB s=true):∀ v ∈ s.2.2.2.2,okV v=true:=fun v hv=>by
 obtain ⟨a1,a2,a3,a4⟩:=inB_b ((scene_p hs).tabs v hv)
 exact okV_of (by omega) (by omega) (by omega) (by omega)
@[go_sem] def scC (s:DSn):List AV:=[.sc (.int .i64 s.1.1),.sc (.int .i64 s.1.2),.sc (.int .i64 s.2.1.1),.sc (.int .i64 s.2.1.2),.sl tVec s.2.2.1,.sl (.slice tVec) s.2.2.2.1,.sl tVec s.2.2.2.2]
@[go_sem] def rd0:List AV:=[.sc (.int .i64 0),.sc (.int .i64 0),.sc (.int .i64 0),.sc (.int .i64 0),.sc (.slice none 0 0),.sc (.slice none 0 0),.sc (.slice none 0 0),.sc (.slice none 0 0),.sc (.slice none 0 0),.sc (.slice none 0 0)]
set_option maxHeartbeats 4000000 in
theorem BuildRoad_fn (s:DSn) (hs:sceneB s=true):Fn Tryz.prog 5 [⟨tScene,s⟩] false [⟨tRoad,rdOf s⟩,⟨.bool,true⟩]:=by
 have c0:=IsValidSceneI_fn s
 rw [hs] at c0
 have c1:=ownScene_fn s (scP_sizes (scene_p hs))
 have c2:=(OpenTablesI_fn s hs).sh
 have ht:=(scene_p hs).ntab
 have cc:=(connect_fn s (slI4 s 4) (otD s) (slP4 hs) (fun k hk=>ot_mem hk) (tb_ok hs) (by have:=otI_len s s.2.2.2.2.length; unfold otD; omega)).ren1 (fun v hv=>by
  rcases List.mem_append.1 hv with hv|hv
  ·exact rdD_plain v hv
  ·rw [List.mem_singleton.1 hv]; trivial) (fun v hv=>by
  rcases List.mem_append.1 hv with hv|hv
  ·exact rdD_plain v hv
  ·rw [List.mem_singleton.1 hv]; trivial) 2
 have c3:=fun (k:Nat) (hk:k < 4)=>slS_fn hs (h:=(k:Int)) ⟨by omega,by omega⟩
 have hl:=slI4_len s
 have e1:∀ k,slI4 s (k+1)=slI4 s k++[slS s (k:Int)]:=fun _=>rfl
 have e0:slI4 s 0=[]:=rfl
 unfold rdOf
 unfold rdD at cc
 generalize otD s=op at *
 generalize lnkD (slI4 s 4) s.2.2.2.2 op=L at *
 generalize slI4 s=SI at *
 generalize slS s=SS at *
 obtain ⟨⟨a1,a2⟩,⟨b1,b2⟩,r,o,tb⟩:=s
 refine fe Tryz.func5 Tryz.ntmps5 Tryz.results5 fun hwf=>?_
 try simp (maxSteps:=9^9) only[go_sem]
 repeat refine AI ?_
 refine cw c0 ?_
 try simp (maxSteps:=9^9) only[go_sem]
 repeat refine AI ?_
 repeat refine AI ?_
 refine cw c1 ?_
 try simp (maxSteps:=9^9) only[go_sem]
 repeat refine AI ?_
 refine cw c2 ?_
 try simp (maxSteps:=9^9) only[go_sem]
 repeat refine AI ?_
 refine LoopG.intro _ _ _ (fun k:Nat=>⟨[(1,.ptr 0 0),(2,.ptr 1 0),(4,.ptr 2 0),(15,.sc (.int .i64 k))],if k=4 then [(0,.box (scC ((a1,a2),(b1,b2),r,o,tb))),(1,.box rd0),(2,.box (scC ((a1,a2),(b1,b2),r,o,tb)++[.sl tSlice (SI 4),.sl .int op,.sc (.slice none 0 0)]))] else [(0,.box (scC ((a1,a2),(b1,b2),r,o,tb))),(1,.box rd0),(2,.box (scC ((a1,a2),(b1,b2),r,o,tb)++[.row 3 0,.sl .int op,.sc (.slice none 0 0)])),(3,.row 57 tSlice 0 false (SI k))]⟩) (fun k=>k<=4) (fun k=>4 - k) 0 ?_ (Nat.zero_le _) ?_
 ·rw [if_neg (by omega)]
  refine Wk.nilB 2 7 3 57 tSlice (by rfl) (by rfl) (by rfl) ?_
  simp only [List.set_cons_succ,List.set_cons_zero]
  refine Wk.mk [] ?_
  try simp (maxSteps:=9^9) only[go_sem]
  try (and_intros<;>first|rfl|omega|exact ⟨_,rfl⟩)
  exact ⟨rfl,e0.symm⟩
 ·rintro k hk
  have hlk:=hl k
  by_cases h4:k=4
  ·subst h4
   rw [if_pos rfl]
   have d1:decide (((4:Nat):Int) < 4)=false:=by decide
   try simp (maxSteps:=9^9) only[go_sem,d1]
   repeat refine AI ?_
   refine CallW.ma (cc) ?_
   try simp (maxSteps:=9^9) only[go_sem]
   repeat refine AI ?_
   all_goals repeat refine AI ?_
   all_goals first|kernel_rfl|omega|rfl
  ·rw [if_neg h4]
   have d1:decide ((k:Int) < 4)=true:=decide_eq_true (by omega)
   have c4:=c3 k (by omega)
   try simp (maxSteps:=9^9) only[go_sem,d1]
   repeat refine AI ?_
   refine cw c4 ?_
   try simp (maxSteps:=9^9) only[go_sem]
   repeat refine AI ?_
   refine LoopK.mk (k+1) ?_ (by omega) (by omega)
   by_cases h3:k=3
   ·subst h3
    rw [if_pos rfl]
    refine Wk.mk [] ?_
    try simp (maxSteps:=9^9) only[go_sem]
    try (and_intros<;>first|rfl|omega|exact ⟨_,rfl⟩)
    exact ⟨rfl,(e1 3).symm⟩
   ·rw [if_neg (by omega),e1]
    exact WK
set_option maxHeartbeats 4000000 in
theorem UpdateRoad_fn (s t:DSn) (hs:sceneB s=true) (ht:sceneB t=true):Fn Tryz.prog 8 [⟨tRoad,rdOf s⟩,⟨tScene,t⟩] false [⟨tRoad,rdOf t⟩,⟨.int,((chgH (rdOf s) t).length:Int)⟩,⟨.bool,true⟩]:=by
 have c0:=IsValidSceneI_fn t
 rw [ht] at c0
 have cg:=(changed_fn (rdOf s) (emptySlice_fn (fun h e=>bxN_f e) (LimitsOfI_fn t) (BlockedAreasI_fn t))).sh
 have eg:chgH (rdOf s) t=chgD (frmE (opnB t) (bxN t) (arN t)) (slI4 s 4) 4:=if_pos ht
 rw [<-show chgD (frmE (opnB t) (bxN t) (arN t)) (rdOf s).2.1 4=chgH (rdOf s) t from eg.symm]
 have c1:=ownScene_fn t (scP_sizes (scene_p ht))
 have c2:=(OpenTablesI_fn t ht).sh
 have hnt:=(scene_p ht).ntab
 have cc:=(connect_fn t (slI4 t 4) (otD t) (slP4 ht) (fun k hk=>ot_mem hk) (tb_ok ht) (by have:=otI_len t t.2.2.2.2.length; unfold otD; omega)).ren1 (fun v hv=>by
  rcases List.mem_append.1 hv with hv|hv
  ·exact rdD_plain v hv
  ·rw [List.mem_singleton.1 hv]; trivial) (fun v hv=>by
  rcases List.mem_append.1 hv with hv|hv
  ·exact rdD_plain v hv
  ·rw [List.mem_singleton.1 hv]; trivial) 3
 have c3:=fun (k:Nat) (hk:k < 4)=>slS_fn ht (h:=(k:Int)) ⟨by omega,by omega⟩
 have hl:=slI4_len t
 have hl4:=slI4_len s 4
 have e1:∀ k,slI4 t (k+1)=slI4 t k++[slS t (k:Int)]:=fun _=>rfl
 have e0:slI4 t 0=[]:=rfl
 have c5:∀ k:Nat,k < 4->(k:Int) ∉ chgD (frmE (opnB t) (bxN t) (arN t)) (slI4 s 4) 4->Fn Tryz.prog 26 [⟨tSlice,nth (t:=tSlice) (slI4 s 4) k⟩] false [⟨tSlice,slS t (k:Int)⟩]:=fun k hk hn=>by
  have h1:k < (slI4 s 4).length/\frmP (nth (t:=tSlice) (slI4 s 4) k) (frmE (opnB t) (bxN t) (arN t) (k:Int)):=Classical.byContradiction fun h=>hn (chg_mem.2 ⟨hk,h⟩)
  have h2:=h1.2
  rw [slI4_nth s hk] at h2 ⊢
  rw [<-slS_frm h2]
  exact slS_own hs _
 have c6:=fun k:Nat=>contains_int_fn (chgD (frmE (opnB t) (bxN t) (arN t)) (slI4 s 4) 4) (k:Int)
 unfold rdOf at cg ⊢
 unfold rdD at cc
 dsimp only at cg ⊢
 generalize chgD (frmE (opnB t) (bxN t) (arN t)) (slI4 s 4) 4=hd at *
 generalize otD t=op at *
 generalize lnkD (slI4 t 4) t.2.2.2.2 op=L at *
 generalize slI4 t=SI at *
 generalize slS t=SS at *
 generalize slI4 s 4=SA at *
 generalize otD s=os at *
 generalize lnkD SA s.2.2.2.2 os=Ls at *
 obtain ⟨⟨a1,a2⟩,⟨b1,b2⟩,r,o,tb⟩:=t
 obtain ⟨⟨x1,x2⟩,⟨y1,y2⟩,r2,o2,tb2⟩:=s
 refine fe Tryz.func8 Tryz.ntmps8 Tryz.results8 fun hwf=>?_
 try simp (maxSteps:=9^9) only[go_sem]
 repeat refine AI ?_
 refine cw c0 ?_
 try simp (maxSteps:=9^9) only[go_sem]
 repeat refine AI ?_
 repeat refine AI ?_
 refine cw cg ?_
 try simp (maxSteps:=9^9) only[go_sem]
 repeat refine AI ?_
 repeat refine AI ?_
 refine cw c1 ?_
 try simp (maxSteps:=9^9) only[go_sem]
 repeat refine AI ?_
 refine cw c2 ?_
 try simp (maxSteps:=9^9) only[go_sem]
 repeat refine AI ?_
 refine LoopG.intro _ _ _ (fun k:Nat=>⟨[(2,.ptr 0 0),(3,.ptr 1 0),(4,.ptr 2 0),(7,.sl .int hd),(8,.ptr 3 0),(22,.sc (.int .i64 k))],if k=4 then [(0,.box (scC ((x1,x2),(y1,y2),r2,o2,tb2)++[.sl tSlice SA,.sl .int os,.sl (.slice .int) Ls])),(1,.box (scC ((a1,a2),(b1,b2),r,o,tb))),(2,.box rd0),(3,.box (scC ((a1,a2),(b1,b2),r,o,tb)++[.sl tSlice (SI 4),.sl .int op,.sc (.slice none 0 0)]))] else [(0,.box (scC ((x1,x2),(y1,y2),r2,o2,tb2)++[.sl tSlice SA,.sl .int os,.sl (.slice .int) Ls])),(1,.box (scC ((a1,a2),(b1,b2),r,o,tb))),(2,.box rd0),(3,.box (scC ((a1,a2),(b1,b2),r,o,tb)++[.row 4 0,.sl .int op,.sc (.slice none 0 0)])),(4,.row 57 tSlice 0 false (SI k))]⟩) (fun k=>k<=4) (fun k=>4 - k) 0 ?_ (Nat.zero_le _) ?_
 ·rw [if_neg (by omega)]
  refine Wk.nilB 3 7 4 57 tSlice (by rfl) (by rfl) (by rfl) ?_
  simp only [List.set_cons_succ,List.set_cons_zero]
  refine Wk.mk [] ?_
  try simp (maxSteps:=9^9) only[go_sem]
  try (and_intros<;>first|rfl|omega|exact ⟨_,rfl⟩)
  exact ⟨rfl,e0.symm⟩
 ·rintro k hk
  have hlk:=hl k
  by_cases h4:k=4
  ·subst h4
   rw [if_pos rfl]
   have d1:decide (((4:Nat):Int) < 4)=false:=by decide
   try simp (maxSteps:=9^9) only[go_sem,d1]
   repeat refine AI ?_
   refine CallW.ma (cc) ?_
   try simp (maxSteps:=9^9) only[go_sem]
   repeat refine AI ?_
   all_goals repeat refine AI ?_
   all_goals first|kernel_rfl|omega|rfl
  ·rw [if_neg h4]
   have d1:decide ((k:Int) < 4)=true:=decide_eq_true (by omega)
   have c4:=c3 k (by omega)
   have c7:=c6 k
   have c8:=c5 k (by omega)
   try simp (maxSteps:=9^9) only[go_sem,d1]
   cases hb:(hd.any fun y=>decide ((k:Int)=y))<;>rw [hb] at c7
   ·have c9:=c8 fun h=>by have:=any_mem.2 h; rw [hb] at this; cases this
    repeat refine AI ?_
    refine cw c7 ?_
    try simp (maxSteps:=9^9) only[go_sem]
    repeat refine AI ?_
    repeat refine AI ?_
    refine cw c9 ?_
    try simp (maxSteps:=9^9) only[go_sem]
    repeat refine AI ?_
    refine LoopK.mk (k+1) ?_ (by omega) (by omega)
    by_cases h3:k=3
    ·subst h3
     rw [if_pos rfl]
     refine Wk.mk [] ?_
     try simp (maxSteps:=9^9) only[go_sem]
     try (and_intros<;>first|rfl|omega|exact ⟨_,rfl⟩)
     exact ⟨rfl,(e1 3).symm⟩
    ·rw [if_neg (by omega),e1]
     exact WK
   ·repeat refine AI ?_
    refine cw c7 ?_
    try simp (maxSteps:=9^9) only[go_sem]
    repeat refine AI ?_
    repeat refine AI ?_
    refine cw c4 ?_
    try simp (maxSteps:=9^9) only[go_sem]
    repeat refine AI ?_
    refine LoopK.mk (k+1) ?_ (by omega) (by omega)
    by_cases h3:k=3
    ·subst h3
     rw [if_pos rfl]
     refine Wk.mk [] ?_
     try simp (maxSteps:=9^9) only[go_sem]
     try (and_intros<;>first|rfl|omega|exact ⟨_,rfl⟩)
     exact ⟨rfl,(e1 3).symm⟩
    ·rw [if_neg (by omega),e1]
     exact WK
theorem hasObstacle_fn (s:DSn) (k:Int) (hn:s.2.2.2.1.length<=1000):Fn Tryz.prog 18 [⟨tScene,s⟩,⟨.int,k⟩] false [⟨.bool,sceneB s && decide (0<=k/\k<=(s.2.2.2.1.length:Int) - 1)⟩]:=by
 have c1:=IsValidSceneI_fn s
 have c2:=within_fn k 0 ((s.2.2.2.1.length:Int) - 1)
 obtain ⟨⟨a1,a2⟩,⟨b1,b2⟩,r,o,tb⟩:=s
 generalize sceneB ((a1,a2),(b1,b2),r,o,tb)=g at *
 cases g
 ·refine fe Tryz.func18 Tryz.ntmps18 Tryz.results18 fun hwf=>?_
  try simp (maxSteps:=9^9) only[go_sem]
  repeat refine AI ?_
  refine cw c1 ?_
  try simp (maxSteps:=9^9) only[go_sem]
  all_goals repeat refine AI ?_
  all_goals first|kernel_rfl|omega|rfl
 ·refine fe Tryz.func18 Tryz.ntmps18 Tryz.results18 fun hwf=>?_
  try simp (maxSteps:=9^9) only[go_sem]
  repeat refine AI ?_
  refine cw c1 ?_
  try simp (maxSteps:=9^9) only[go_sem]
  dsimp only at hn
  repeat refine AI ?_
  repeat refine AI ?_
  refine cw c2 ?_
  try simp (maxSteps:=9^9) only[go_sem]
  all_goals repeat refine AI ?_
  all_goals first|kernel_rfl|omega|rfl
theorem MovePolygon_fn (l:List DV) (v:DV) (hv:okV v=true) (hl:∀ v ∈ l,okV v=true) (hn:l.length<=1048576) (hm:∀ u ∈ l.map (addV v),okV u=true):Fn Tryz.prog 20 [⟨.slice tVec,l⟩,⟨tVec,v⟩] true [⟨.slice tVec,l.map (addV v)⟩]:=by
 have c1:=moved_fn l v hv hl hn
 have c2:=isVec_fn v
 rw [hv] at c2
 have c3:=areVecs_fn (l.map (addV v))
 have e:(!((l.map (addV v)).any fun v=>!okV v))=true:=by
  rw [Bool.not_eq_true',List.any_eq_false]
  intro u hu
  rw [hm u hu]; decide
 rw [e] at c3
 generalize l.map (addV v)=m at *
 obtain ⟨v1,v2⟩:=v
 refine fe Tryz.func20 Tryz.ntmps20 Tryz.results20 fun hwf=>?_
 try simp (maxSteps:=9^9) only[go_sem]
 repeat refine AI ?_
 refine cw c1 ?_
 try simp (maxSteps:=9^9) only[go_sem]
 repeat refine AI ?_
 refine cw c2 ?_
 try simp (maxSteps:=9^9) only[go_sem]
 repeat refine AI ?_
 repeat refine AI ?_
 refine cw c3 ?_
 try simp (maxSteps:=9^9) only[go_sem]
 all_goals repeat refine AI ?_
 all_goals first|kernel_rfl|omega|rfl
theorem cloneSS_fn (l:List (List DV)) (h0:0 < l.length) (hn:l.length<=1048576):FnL Tryz.prog 19 [⟨tVecSS,l⟩] 25 (.slice tVec) l:=by
 refine fnL_enter tabOK mixes Tryz.func19 rfl rfl _ Tryz.ntmps19 _ Tryz.results19 (by simp) fun hwf=>?_
 try simp (maxSteps:=9^9) only[go_sem]
 refine NilW.non (by intro e; rw [e] at h0; simp at h0) ?_
 try simp (maxSteps:=9^9) only[go_sem]
 repeat refine AI ?_
 exact ⟨0,1,_,rfl,rfl⟩
theorem turned_fn (s:DSn) (ob:List (List DV)) (h:s.2.2.1.length<=16/\s.2.2.2.1.length<=4/\(∀ a ∈ s.2.2.2.1,a.length<=1000)/\s.2.2.2.2.length<=16) (h1:ob.length<=1000) (h2:∀ a ∈ ob,a.length<=1000):Fn Tryz.prog 21 [⟨tScene,s⟩,⟨tVecSS,ob⟩] false [⟨tScene,if sceneB (s.1,s.2.1,s.2.2.1,ob,s.2.2.2.2)=true then (s.1,s.2.1,s.2.2.1,ob,s.2.2.2.2) else s⟩,⟨.bool,sceneB (s.1,s.2.1,s.2.2.1,ob,s.2.2.2.2)⟩]:=by
 have c1:=ownScene_fn s h
 have c2:=ownAreas_fn ob h1 h2
 have c3:=IsValidSceneI_fn (s.1,s.2.1,s.2.2.1,ob,s.2.2.2.2)
 obtain ⟨⟨a1,a2⟩,⟨b1,b2⟩,r,o,tb⟩:=s
 dsimp only at c3 ⊢
 generalize sceneB ((a1,a2),(b1,b2),r,ob,tb)=g at *
 cases g
 ·rw [if_neg (fun h=>by cases h)]
  refine fe Tryz.func21 Tryz.ntmps21 Tryz.results21 fun hwf=>?_
  try simp (maxSteps:=9^9) only[go_sem]
  repeat refine AI ?_
  refine cw c1 ?_
  try simp (maxSteps:=9^9) only[go_sem]
  repeat refine AI ?_
  refine cw c2 ?_
  try simp (maxSteps:=9^9) only[go_sem]
  repeat refine AI ?_
  refine cw c3 ?_
  try simp (maxSteps:=9^9) only[go_sem]
  repeat refine AI ?_
  refine cw c1 ?_
  try simp (maxSteps:=9^9) only[go_sem]
  all_goals repeat refine AI ?_
  all_goals first|kernel_rfl|omega|rfl
 ·rw [if_pos rfl]
  refine fe Tryz.func21 Tryz.ntmps21 Tryz.results21 fun hwf=>?_
  try simp (maxSteps:=9^9) only[go_sem]
  repeat refine AI ?_
  refine cw c1 ?_
  try simp (maxSteps:=9^9) only[go_sem]
  repeat refine AI ?_
  refine cw c2 ?_
  try simp (maxSteps:=9^9) only[go_sem]
  repeat refine AI ?_
  refine cw c3 ?_
  try simp (maxSteps:=9^9) only[go_sem]
  all_goals repeat refine AI ?_
  all_goals first|kernel_rfl|omega|rfl
noncomputable def shfD (s:DSn) (v:DV):DSn × Bool:=match s.2.2.2.1 with
 | []=>(s,false)
 | x :: l=>if sceneB (s.1,s.2.1,s.2.2.1,x.map (addV v) :: l,s.2.2.2.2)=true then ((s.1,s.2.1,s.2.2.1,x.map (addV v) :: l,s.2.2.2.2),true) else (s,false)
theorem shfD_ok {s:DSn} (h:sceneB s=true) (v:DV):sceneB (shfD s v).1=true:=by
 unfold shfD
 split
 ·exact h
 ·split
  ·assumption
  ·exact h
set_option maxHeartbeats 2000000 in
theorem ShiftObstacle_fn (s:DSn) (hs:sceneB s=true) (v:DV) (hv:v.1.natAbs<=500/\v.2.natAbs<=500):Fn Tryz.prog 6 [⟨tScene,s⟩,⟨.int,0⟩,⟨tVec,v⟩] false [⟨tScene,(shfD s v).1⟩,⟨.bool,(shfD s v).2⟩]:=by
 have hp:=scene_p hs
 have hz:=scP_sizes hp
 have c1:=hasObstacle_fn s 0 (by have:=hz.2.1; omega)
 have c2:=ownScene_fn s hz
 have hob:=hp.obs
 obtain ⟨⟨a1,a2⟩,⟨b1,b2⟩,r,o,tb⟩:=s
 rw [hs,Bool.true_and] at c1
 obtain ⟨v1,v2⟩:=v
 cases o with
 | nil =>
  have e:decide ((0:Int)<=0/\(0:Int)<=(([]:List (List DV)).length:Int) - 1)=false:=by decide
  rw [e] at c1
  have es:shfD ((a1,a2),(b1,b2),r,[],tb) (v1,v2)=(((a1,a2),(b1,b2),r,[],tb),false):=rfl
  rw [es]
  refine fe Tryz.func6 Tryz.ntmps6 Tryz.results6 fun hwf=>?_
  try simp (maxSteps:=9^9) only[go_sem]
  repeat refine AI ?_
  refine cw c1 ?_
  try simp (maxSteps:=9^9) only[go_sem]
  repeat refine AI ?_
  refine cw c2 ?_
  try simp (maxSteps:=9^9) only[go_sem]
  all_goals repeat refine AI ?_
  all_goals first|kernel_rfl|omega|rfl
 | cons x l =>
  have e:decide ((0:Int)<=0/\(0:Int)<=((x :: l).length:Int) - 1)=true:=decide_eq_true ⟨by omega,by rw [List.length_cons]; omega⟩
  dsimp only at c1 hob
  rw [e] at c1
  have hx:=hob x (List.mem_cons_self ..)
  have h5:=hx.five
  have hok:∀ u ∈ x,okV u=true:=fun u hu=>by
   obtain ⟨a1,a2,a3,a4⟩:=inB_b (hx.ins u hu)
   exact okV_of (by omega) (by omega) (by omega) (by omega)
  have c3:=cloneSS_fn (x :: l) (by simp) (by have:=hz.2.1; dsimp only at this; omega)
  have c4:=MovePolygon_fn x (v1,v2) (okV_of (by dsimp only at hv; omega) (by dsimp only at hv; omega) (by dsimp only at hv; omega) (by dsimp only at hv; omega)) hok (by omega) (fun u hu=>by
   obtain ⟨w,hw,rfl⟩:=List.mem_map.1 hu
   obtain ⟨a1,a2,a3,a4⟩:=inB_b (hx.ins w hw)
   dsimp only at hv
   exact okV_of (by show -1000<=w.1+v1; omega) (by show w.1+v1<=1000; omega) (by show -1000<=w.2+v2; omega) (by show w.2+v2<=1000; omega))
  have hl5:(x.map (addV (v1,v2))).length<=1000:=by rw [List.length_map]; omega
  have c5:=turned_fn ((a1,a2),(b1,b2),r,x :: l,tb) (x.map (addV (v1,v2)) :: l) hz (by have:=hz.2.1; simp only [List.length_cons] at this ⊢; omega) (fun a ha=>by
   rcases List.mem_cons.1 ha with rfl|ha
   ·exact hl5
   ·exact hz.2.2.1 a (List.mem_cons_of_mem _ ha))
  dsimp only at c5
  have es:shfD ((a1,a2),(b1,b2),r,x :: l,tb) (v1,v2)=if sceneB ((a1,a2),(b1,b2),r,x.map (addV (v1,v2)) :: l,tb)=true then (((a1,a2),(b1,b2),r,x.map (addV (v1,v2)) :: l,tb),true) else (((a1,a2),(b1,b2),r,x :: l,tb),false):=rfl
  rw [es]
  generalize x.map (addV (v1,v2))=m at *
  generalize sceneB ((a1,a2),(b1,b2),r,m :: l,tb)=g at *
  cases g
  ·rw [if_neg (fun h=>by cases h)] at c5 ⊢
   refine fe Tryz.func6 Tryz.ntmps6 Tryz.results6 fun hwf=>?_
   try simp (maxSteps:=9^9) only[go_sem]
   repeat refine AI ?_
   refine cw c1 ?_
   try simp (maxSteps:=9^9) only[go_sem]
   repeat refine AI ?_
   refine CallW.l (c3) ?_
   try simp (maxSteps:=9^9) only[go_sem]
   repeat refine AI ?_
   repeat refine AI ?_
   refine cw c4 ?_
   try simp (maxSteps:=9^9) only[go_sem]
   repeat refine AI ?_
   repeat refine AI ?_
   refine cw c5 ?_
   try simp (maxSteps:=9^9) only[go_sem]
   all_goals repeat refine AI ?_
   all_goals first|kernel_rfl|omega|rfl
  ·rw [if_pos rfl] at c5 ⊢
   refine fe Tryz.func6 Tryz.ntmps6 Tryz.results6 fun hwf=>?_
   try simp (maxSteps:=9^9) only[go_sem]
   repeat refine AI ?_
   refine cw c1 ?_
   try simp (maxSteps:=9^9) only[go_sem]
   repeat refine AI ?_
   refine CallW.l (c3) ?_
   try simp (maxSteps:=9^9) only[go_sem]
   repeat refine AI ?_
   repeat refine AI ?_
   refine cw c4 ?_
   try simp (maxSteps:=9^9) only[go_sem]
   repeat refine AI ?_
   repeat refine AI ?_
   refine cw c5 ?_
   try simp (maxSteps:=9^9) only[go_sem]
   all_goals repeat refine AI ?_
   all_goals first|kernel_rfl|omega|rfl
set_option maxHeartbeats 1000000 in
theorem eqCells_fn (F:FuncId) (a:List (tCell).den) (hF:∀ x ∈ a,Fn Tryz.prog F [⟨tCell,x⟩,⟨tCell,x⟩] false [⟨.bool,true⟩]):Fn Tryz.prog 69 [⟨.slice (tCell),a⟩,⟨.slice (tCell),a⟩,⟨.cst (.fn F),()⟩] false [⟨.bool,true⟩]:=by
 refine fe Tryz.func69 Tryz.ntmps69 Tryz.results69 fun hwf=>?_
 have hl:a.length<=9223372036854775807:=(hwf ⟨.slice (tCell),a⟩ (by simp)).1
 try simp (maxSteps:=9^9) only[go_sem]
 refine LoopG.intro _ _ _ (fun i:Nat=>⟨[(1,.sl (tCell) a),(2,.sc (.func (.func F) #[] #[])),(15,.sl (tCell) a),(16,.sc (.int .i64 a.length)),(17,.sc (.int .i64 i))],[]⟩) (fun i=>i<=a.length) (fun i=>a.length - i) 0 ?_ (Nat.zero_le _) ?_
 ·exact WK
 ·rintro i hi
  try simp (maxSteps:=9^9) only[go_sem]
  refine CondW_dec (fun hA=>?_) (fun hA=>?_)
  ·have hlt:i < a.length:=by omega
   have c1:=hF _ (nth_in (t:=tCell) hlt)
   try simp (maxSteps:=9^9) only[go_sem]
   repeat refine AI ?_
   repeat refine AI ?_
   refine cw c1 ?_
   try simp (maxSteps:=9^9) only[go_sem]
   repeat refine AI ?_
   refine LoopK.mk (i+1) ?_ (by omega) (by omega)
   exact WK
  ·try simp (maxSteps:=9^9) only[go_sem]
   all_goals repeat refine AI ?_
   all_goals first|kernel_rfl|omega|rfl
set_option maxHeartbeats 1000000 in
theorem eqWalls_fn (F:FuncId) (a:List (tWall).den) (hF:∀ x ∈ a,Fn Tryz.prog F [⟨tWall,x⟩,⟨tWall,x⟩] false [⟨.bool,true⟩]):Fn Tryz.prog 71 [⟨.slice (tWall),a⟩,⟨.slice (tWall),a⟩,⟨.cst (.fn F),()⟩] false [⟨.bool,true⟩]:=by
 refine fe Tryz.func71 Tryz.ntmps71 Tryz.results71 fun hwf=>?_
 have hl:a.length<=9223372036854775807:=(hwf ⟨.slice (tWall),a⟩ (by simp)).1
 try simp (maxSteps:=9^9) only[go_sem]
 refine LoopG.intro _ _ _ (fun i:Nat=>⟨[(1,.sl (tWall) a),(2,.sc (.func (.func F) #[] #[])),(15,.sl (tWall) a),(16,.sc (.int .i64 a.length)),(17,.sc (.int .i64 i))],[]⟩) (fun i=>i<=a.length) (fun i=>a.length - i) 0 ?_ (Nat.zero_le _) ?_
 ·exact WK
 ·rintro i hi
  try simp (maxSteps:=9^9) only[go_sem]
  refine CondW_dec (fun hA=>?_) (fun hA=>?_)
  ·have hlt:i < a.length:=by omega
   have c1:=hF _ (nth_in (t:=tWall) hlt)
   try simp (maxSteps:=9^9) only[go_sem]
   repeat refine AI ?_
   repeat refine AI ?_
   refine cw c1 ?_
   try simp (maxSteps:=9^9) only[go_sem]
   repeat refine AI ?_
   refine LoopK.mk (i+1) ?_ (by omega) (by omega)
   exact WK
  ·try simp (maxSteps:=9^9) only[go_sem]
   all_goals repeat refine AI ?_
   all_goals first|kernel_rfl|omega|rfl
set_option maxHeartbeats 1000000 in
theorem eqSlices_fn (F:FuncId) (a:List (tSlice).den) (hF:∀ x ∈ a,Fn Tryz.prog F [⟨tSlice,x⟩,⟨tSlice,x⟩] false [⟨.bool,true⟩]):Fn Tryz.prog 28 [⟨.slice (tSlice),a⟩,⟨.slice (tSlice),a⟩,⟨.cst (.fn F),()⟩] false [⟨.bool,true⟩]:=by
 refine fe Tryz.func28 Tryz.ntmps28 Tryz.results28 fun hwf=>?_
 have hl:a.length<=9223372036854775807:=(hwf ⟨.slice (tSlice),a⟩ (by simp)).1
 try simp (maxSteps:=9^9) only[go_sem]
 refine LoopG.intro _ _ _ (fun i:Nat=>⟨[(1,.sl (tSlice) a),(2,.sc (.func (.func F) #[] #[])),(15,.sl (tSlice) a),(16,.sc (.int .i64 a.length)),(17,.sc (.int .i64 i))],[]⟩) (fun i=>i<=a.length) (fun i=>a.length - i) 0 ?_ (Nat.zero_le _) ?_
 ·exact WK
 ·rintro i hi
  try simp (maxSteps:=9^9) only[go_sem]
  refine CondW_dec (fun hA=>?_) (fun hA=>?_)
  ·have hlt:i < a.length:=by omega
   have c1:=hF _ (nth_in (t:=tSlice) hlt)
   try simp (maxSteps:=9^9) only[go_sem]
   repeat refine AI ?_
   repeat refine AI ?_
   refine cw c1 ?_
   try simp (maxSteps:=9^9) only[go_sem]
   repeat refine AI ?_
   refine LoopK.mk (i+1) ?_ (by omega) (by omega)
   exact WK
  ·try simp (maxSteps:=9^9) only[go_sem]
   all_goals repeat refine AI ?_
   all_goals first|kernel_rfl|omega|rfl
set_option maxHeartbeats 1000000 in
theorem eqRows_fn (F:FuncId) (a:List (tInts).den) (hF:∀ x ∈ a,Fn Tryz.prog F [⟨tInts,x⟩,⟨tInts,x⟩] false [⟨.bool,true⟩]):Fn Tryz.prog 31 [⟨.slice (tInts),a⟩,⟨.slice (tInts),a⟩,⟨.cst (.fn F),()⟩] false [⟨.bool,true⟩]:=by
 refine fe Tryz.func31 Tryz.ntmps31 Tryz.results31 fun hwf=>?_
 have hl:a.length<=9223372036854775807:=(hwf ⟨.slice (tInts),a⟩ (by simp)).1
 try simp (maxSteps:=9^9) only[go_sem]
 refine LoopG.intro _ _ _ (fun i:Nat=>⟨[(1,.sl (tInts) a),(2,.sc (.func (.func F) #[] #[])),(15,.sl (tInts) a),(16,.sc (.int .i64 a.length)),(17,.sc (.int .i64 i))],[]⟩) (fun i=>i<=a.length) (fun i=>a.length - i) 0 ?_ (Nat.zero_le _) ?_
 ·exact WK
 ·rintro i hi
  try simp (maxSteps:=9^9) only[go_sem]
  refine CondW_dec (fun hA=>?_) (fun hA=>?_)
  ·have hlt:i < a.length:=by omega
   have c1:=hF _ (nth_in (t:=tInts) hlt)
   try simp (maxSteps:=9^9) only[go_sem]
   repeat refine AI ?_
   repeat refine AI ?_
   refine cw c1 ?_
   try simp (maxSteps:=9^9) only[go_sem]
   repeat refine AI ?_
   refine LoopK.mk (i+1) ?_ (by omega) (by omega)
   exact WK
  ·try simp (maxSteps:=9^9) only[go_sem]
   all_goals repeat refine AI ?_
   all_goals first|kernel_rfl|omega|rfl
set_option maxHeartbeats 1000000 in
theorem eqDoors_fn (a:List DV):Fn Tryz.prog 73 [⟨.slice tVec,a⟩,⟨.slice tVec,a⟩] false [⟨.bool,true⟩]:=by
 refine fe Tryz.func73 Tryz.ntmps73 Tryz.results73 fun hwf=>?_
 have hl:a.length<=9223372036854775807:=(hwf ⟨.slice tVec,a⟩ (by simp)).1
 try simp (maxSteps:=9^9) only[go_sem]
 refine LoopG.intro _ _ _ (fun i:Nat=>⟨[(0,.sl tVec a),(1,.sl tVec a),(12,.sc (.int .i64 a.length)),(13,.sc (.int .i64 i))],[]⟩) (fun i=>i<=a.length) (fun i=>a.length - i) 0 ?_ (Nat.zero_le _) ?_
 ·exact WK
 ·rintro i hi
  try simp (maxSteps:=9^9) only[go_sem]
  refine CondW_dec (fun hA=>?_) (fun hA=>?_)
  ·have hlt:i < a.length:=by omega
   have d1:(decide ((nth (t:=tVec) a i).1=(nth (t:=tVec) a i).1) && decide ((nth (t:=tVec) a i).2=(nth (t:=tVec) a i).2))=true:=by simp
   try simp (maxSteps:=9^9) only[go_sem,d1]
   repeat refine AI ?_
   try simp (maxSteps:=9^9) only[go_sem,d1]
   repeat refine AI ?_
   refine LoopK.mk (i+1) ?_ (by omega) (by omega)
   exact WK
  ·try simp (maxSteps:=9^9) only[go_sem]
theorem sameRat_fn (r:DR):Fn Tryz.prog 112 [⟨tRat,r⟩,⟨tRat,r⟩] false [⟨.bool,true⟩]:=by
 have:=RatEqual_fn r r
 rwa [eqb_true rfl] at this
set_option maxHeartbeats 2000000 in
theorem sameCell_fn (k:DCl):Fn Tryz.prog 70 [⟨tCell,k⟩,⟨tCell,k⟩] false [⟨.bool,true⟩]:=by
 obtain ⟨k1,k2,k3,k4,k5,k6⟩:=k
 refine fe Tryz.func70 Tryz.ntmps70 Tryz.results70 fun hwf=>?_
 try simp (maxSteps:=9^9) only[go_sem]
 repeat refine AI ?_
 repeat refine AI ?_
 refine cw (sameRat_fn k1) ?_
 try simp (maxSteps:=9^9) only[go_sem]
 repeat refine AI ?_
 repeat refine AI ?_
 refine cw (sameRat_fn k2) ?_
 try simp (maxSteps:=9^9) only[go_sem]
 repeat refine AI ?_
 repeat refine AI ?_
 refine cw (sameRat_fn k3) ?_
 try simp (maxSteps:=9^9) only[go_sem]
 repeat refine AI ?_
 repeat refine AI ?_
 refine cw (sameRat_fn k4) ?_
 try simp (maxSteps:=9^9) only[go_sem]
 repeat refine AI ?_
 repeat refine AI ?_
 refine cw (sameRat_fn k5) ?_
 try simp (maxSteps:=9^9) only[go_sem]
 repeat refine AI ?_
 repeat refine AI ?_
 refine cw (sameRat_fn k6) ?_
 try simp (maxSteps:=9^9) only[go_sem]
 all_goals repeat refine AI ?_
 all_goals first|kernel_rfl|omega|rfl
set_option maxHeartbeats 2000000 in
theorem sameWall_fn (w:DWl):Fn Tryz.prog 72 [⟨tWall,w⟩,⟨tWall,w⟩] false [⟨.bool,true⟩]:=by
 obtain ⟨k1,k2,k3⟩:=w
 refine fe Tryz.func72 Tryz.ntmps72 Tryz.results72 fun hwf=>?_
 try simp (maxSteps:=9^9) only[go_sem]
 repeat refine AI ?_
 repeat refine AI ?_
 refine cw (sameRat_fn k1) ?_
 try simp (maxSteps:=9^9) only[go_sem]
 repeat refine AI ?_
 repeat refine AI ?_
 refine cw (sameRat_fn k2) ?_
 try simp (maxSteps:=9^9) only[go_sem]
 repeat refine AI ?_
 repeat refine AI ?_
 refine cw (sameRat_fn k3) ?_
 try simp (maxSteps:=9^9) only[go_sem]
 all_goals repeat refine AI ?_
 all_goals first|kernel_rfl|omega|rfl
theorem eqInt1_fn (a:List Int):Fn Tryz.prog 30 [⟨tInts,a⟩,⟨tInts,a⟩] false [⟨.bool,true⟩]:=by
 have:=eqInts_fn a a
 rwa [eqb_true rfl] at this
theorem eqVec1_fn (a:List DV):Fn Tryz.prog 67 [⟨.slice tVec,a⟩,⟨.slice tVec,a⟩] false [⟨.bool,true⟩]:=by
 have:=eqVecs_fn a a
 rwa [eqb_true rfl] at this
theorem sameAreas1_fn (a:List (List DV)):Fn Tryz.prog 68 [⟨.slice (.slice tVec),a⟩,⟨.slice (.slice tVec),a⟩] false [⟨.bool,true⟩]:=by
 have:=sameAreas_fn a a
 rwa [eqb_true rfl] at this
set_option maxHeartbeats 2000000 in
theorem sameSlice_fn (x:DSl):Fn Tryz.prog 29 [⟨tSlice,x⟩,⟨tSlice,x⟩] false [⟨.bool,true⟩]:=by
 have c1:=sameFrame_fn x x
 rw [bdec_t ⟨rfl,rfl,rfl,rfl⟩] at c1
 obtain ⟨xh,xo,⟨⟨x1,x2⟩,⟨x3,x4⟩⟩,xa,xc,xw,xd,xp⟩:=x
 have c2:=eqCells_fn 70 xc fun k _=>sameCell_fn k
 have c3:=eqWalls_fn 72 xw fun k _=>sameWall_fn k
 refine fe Tryz.func29 Tryz.ntmps29 Tryz.results29 fun hwf=>?_
 try simp (maxSteps:=9^9) only[go_sem]
 repeat refine AI ?_
 repeat refine AI ?_
 refine cw c1 ?_
 try simp (maxSteps:=9^9) only[go_sem]
 repeat refine AI ?_
 repeat refine AI ?_
 refine cw c2 ?_
 try simp (maxSteps:=9^9) only[go_sem]
 repeat refine AI ?_
 repeat refine AI ?_
 refine cw c3 ?_
 try simp (maxSteps:=9^9) only[go_sem]
 repeat refine AI ?_
 repeat refine AI ?_
 refine cw (eqDoors_fn xd) ?_
 try simp (maxSteps:=9^9) only[go_sem]
 repeat refine AI ?_
 repeat refine AI ?_
 refine cw (eqInt1_fn xp) ?_
 try simp (maxSteps:=9^9) only[go_sem]
 all_goals repeat refine AI ?_
 all_goals first|kernel_rfl|omega|rfl
set_option maxHeartbeats 2000000 in
theorem sameScene_fn (s:DSn):Fn Tryz.prog 27 [⟨tScene,s⟩,⟨tScene,s⟩] false [⟨.bool,true⟩]:=by
 obtain ⟨⟨a1,a2⟩,⟨b1,b2⟩,r,ob,tb⟩:=s
 refine fe Tryz.func27 Tryz.ntmps27 Tryz.results27 fun hwf=>?_
 try simp (maxSteps:=9^9) only[go_sem]
 repeat refine AI ?_
 try simp (maxSteps:=9^9) only[go_sem]
 repeat refine AI ?_
 repeat refine AI ?_
 refine cw (eqVec1_fn r) ?_
 try simp (maxSteps:=9^9) only[go_sem]
 repeat refine AI ?_
 repeat refine AI ?_
 refine cw (sameAreas1_fn ob) ?_
 try simp (maxSteps:=9^9) only[go_sem]
 repeat refine AI ?_
 repeat refine AI ?_
 refine cw (eqVec1_fn tb) ?_
 try simp (maxSteps:=9^9) only[go_sem]
 all_goals repeat refine AI ?_
 all_goals first|kernel_rfl|omega|rfl
theorem sameRow_fn (l:List Int):Fn Tryz.prog 32 [⟨tInts,l⟩,⟨tInts,l⟩] false [⟨.bool,true⟩]:=by
 refine fe Tryz.func32 Tryz.ntmps32 Tryz.results32 fun hwf=>?_
 try simp (maxSteps:=9^9) only[go_sem]
 repeat refine AI ?_
 refine cw (eqInt1_fn l) ?_
 try simp (maxSteps:=9^9) only[go_sem]
set_option maxHeartbeats 2000000 in
theorem SameRoad_fn (r:DRd):Fn Tryz.prog 9 [⟨tRoad,r⟩,⟨tRoad,r⟩] false [⟨.bool,true⟩]:=by
 have c1:=sameScene_fn r.1
 have c2:=eqSlices_fn 29 r.2.1 fun x _=>sameSlice_fn x
 have c3:=eqInt1_fn r.2.2.1
 have c4:=eqRows_fn 32 r.2.2.2 fun x _=>sameRow_fn x
 obtain ⟨⟨⟨a1,a2⟩,⟨b1,b2⟩,r,ob,tb⟩,sl,op,lk⟩:=r
 refine fe Tryz.func9 Tryz.ntmps9 Tryz.results9 fun hwf=>?_
 try simp (maxSteps:=9^9) only[go_sem]
 repeat refine AI ?_
 repeat refine AI ?_
 refine cw c1 ?_
 try simp (maxSteps:=9^9) only[go_sem]
 repeat refine AI ?_
 repeat refine AI ?_
 refine cw c2 ?_
 try simp (maxSteps:=9^9) only[go_sem]
 repeat refine AI ?_
 repeat refine AI ?_
 refine cw c3 ?_
 try simp (maxSteps:=9^9) only[go_sem]
 repeat refine AI ?_
 repeat refine AI ?_
 refine cw c4 ?_
 try simp (maxSteps:=9^9) only[go_sem]
 all_goals repeat refine AI ?_
 all_goals first|kernel_rfl|omega|rfl
variable {code:List Int}
noncomputable def skO (C:Cu code) (N:Nat):List (List DV):=obL C N++(if (obC C N).below 6=0 then [rcX (6+(obC C N).next.below 8)] else [])
noncomputable def skC (C:Cu code) (N:Nat):Cu code:=if (obC C N).below 6=0 then (obC C N).next.next else (obC C N).next
noncomputable def skM (C:Cu code) (N:Nat):Nat:=((skC C N).below 3).toNat
noncomputable def scR (c:Cu code):List DV × Cu code:=pgD c.next.next 2 8
noncomputable def scN (c:Cu code):Nat:=((scR c).2.below 3).toNat
noncomputable def scD (c:Cu code):DSc:=((0,0),(14+c.below 12,12+c.next.below 10),(scR c).1,skO (scR c).2.next (scN c),tbL (skC (scR c).2.next (scN c)).next (skM (scR c).2.next (scN c)))
noncomputable def scE (c:Cu code):Cu code:=tbC (skC (scR c).2.next (scN c)).next (skM (scR c).2.next (scN c))
theorem scD_ok (c:Cu code):sceneB (scD c)=true:=by
 have h1:=c.below_rng (n:=12) (by decide)
 have h2:=c.next.below_rng (n:=10) (by decide)
 have h3:=(scR c).2.below_rng (n:=3) (by decide)
 have h4:=(skC (scR c).2.next (scN c)).below_rng (n:=3) (by decide)
 have h5:=(obC (scR c).2.next (scN c)).next.below_rng (n:=8) (by decide)
 refine sceneB_of ⟨show inB 200 ((0:Int),(0:Int))=true by decide,inB_of ?_ ?_ ?_ ?_,smB_p (pgD_ok 2 (by decide) 8 _),?_,?_,?_,tbL_ok _ _,?_,?_⟩
 ·show -200<=14+_; omega
 ·show 14+_<=(200:Int); omega
 ·show -200<=12+_; omega
 ·show 12+_<=(200:Int); omega
 ·intro l hl
  rcases List.mem_append.1 (show l ∈ obL _ _++_ from hl) with hl|hl
  ·exact obL_ok _ _ l hl
  ·split at hl
   ·rw [List.mem_singleton.1 hl]
    exact rcX_ok ⟨by omega,by omega⟩
   ·cases hl
 ·show (obL _ _++_).length<=4
  have hN:scN c<=2:=by unfold scN; omega
  rw [List.length_append,obL_len]
  split
  ·rw [List.length_singleton]; omega
  ·rw [List.length_nil]; omega
 ·show (tbL _ _).length<=3
  rw [tbL_len]
  unfold skM; omega
 ·show (0:Int) < 14+_; omega
 ·show (0:Int) < 12+_; omega
theorem moveDraw_fn (c:Cu code):Fn Tryz.prog 35 [⟨.slice tVec,(pgD c 4 8).1⟩,⟨tVec,(4+(pgD c 4 8).2.below 16,3+(pgD c 4 8).2.next.below 12)⟩] true [⟨.slice tVec,obX c⟩]:=by
 have h:=smB_p (pgD_ok 4 (by decide) 8 c)
 obtain ⟨v1,v2,v3,v4⟩:=inB_b (obV_b c)
 have h5:=h.five
 refine movePolygonS_fn _ _ (by omega) (inB_of (by omega) (by omega) (by omega) (by omega)) fun u hu=>?_
 obtain ⟨a1,a2,a3,a4⟩:=inB_b (h.ins u hu)
 refine ⟨inB_of (by omega) (by omega) (by omega) (by omega),inB_of ?_ ?_ ?_ ?_⟩
 all_goals (unfold adV; simp only; omega)
set_option maxHeartbeats 8000000 in
theorem l10Draw_fn (hc:code.length<=1048576) (c:Cu code):Dr 11 c (scE c) [] true ⟨tScene,scD c⟩:=by
 have b1:=c.below_rng (n:=12) (by decide)
 have b2:=c.next.below_rng (n:=10) (by decide)
 have c1:=l01Below_fn hc c 12 (by decide)
 have c2:=l01Below_fn hc c.next 10 (by decide)
 have c3:=l06Draw_fn hc c.next.next 2 (by decide)
 have c4:=l01Below_fn hc (scR c).2 3 (by decide)
 have rN:=(scR c).2.below_rng (n:=3) (by decide)
 have eN:(scR c).2.below 3=(scN c:Int):=by unfold scN; omega
 rw [eN] at c4 rN
 rw [show pgD c.next.next 2 8=scR c from rfl] at c3
 unfold scD scE
 generalize (scR c).1=R at *
 generalize (scR c).2.next=C at *
 generalize scN c=N at *
 generalize c.below 12=H1 at *
 generalize c.next.below 10=H2 at *
 refine fnC_enter tabOK mixes Tryz.func11 rfl rfl _ Tryz.ntmps11 _ Tryz.results11 (by simp) (cz_ok hc _) (cz_one _) fun b u0 hwl hzs hwf=>?_
 try simp (maxSteps:=9^9) only[go_sem]
 repeat refine AI ?_
 refine CallW.c false (c1) ?_
 try simp (maxSteps:=9^9) only[go_sem]
 repeat refine AI ?_
 refine CallW.c false (c2) ?_
 try simp (maxSteps:=9^9) only[go_sem]
 repeat refine AI ?_
 refine CallW.c false (c3) ?_
 try simp (maxSteps:=9^9) only[go_sem]
 repeat refine AI ?_
 refine CallW.c false (c4) ?_
 try simp (maxSteps:=9^9) only[go_sem]
 obtain ⟨z,hz⟩:∃ z:Nat,z=0:=⟨0,rfl⟩
 refine LoopG.intro _ _ _ (fun k:Nat=>match k with|0=>⟨[(0,.ptr 0 0),(2,.ptr 1 0),(3,.ptr 3 0),(4,.sc (.int .i64 ((N:Int) - z)))],[(0,.bx (some b) (.fx u0 .u8 code :: (cz (obC C z)).map fun z=>.sc z)),(1,.box [.sc (.int .i64 0),.sc (.int .i64 0),.sc (.int .i64 0),.sc (.int .i64 0),.sc (.slice none 0 0),.sc (.slice none 0 0),.sc (.slice none 0 0)]),(2,.odat tVec R),(3,.box [.sc (.int .i64 0),.sc (.int .i64 0),.sc (.int .i64 (14+H1)),.sc (.int .i64 (12+H2)),.row 2 0,.sc (.slice none 0 0),.sc (.slice none 0 0)])]⟩|k+1=>⟨[(0,.ptr 0 0),(2,.ptr 1 0),(3,.ptr 3 0),(4,.sc (.int .i64 ((N:Int) - (k+1:Nat))))],[(0,.bx (some b) (.fx u0 .u8 code :: (cz (obC C (k+1))).map fun z=>.sc z)),(1,.box [.sc (.int .i64 0),.sc (.int .i64 0),.sc (.int .i64 0),.sc (.int .i64 0),.sc (.slice none 0 0),.sc (.slice none 0 0),.sc (.slice none 0 0)]),(2,.odat tVec R),(3,.box [.sc (.int .i64 0),.sc (.int .i64 0),.sc (.int .i64 (14+H1)),.sc (.int .i64 (12+H2)),.row 2 0,.row 9 0,.sc (.slice none 0 0)]),(9,.row 25 (.slice tVec) 0 true (obL C (k+1)))]⟩) (fun k=>k<=N) (fun k=>N - k) 0 ?_ (Nat.zero_le _) ?_
 ·dsimp only
  rw [show obC C z=C by subst hz; rfl]
  refine Wk.mk [] ?_
  try simp (maxSteps:=9^9) only[go_sem]
  try (and_intros<;>first|rfl|omega|exact ⟨_,rfl⟩)
  all_goals omega
 ·rintro k hk
  rcases k with _|k
  ·have c1:=l06Draw_fn hc (obC C z) 4 (by decide)
   have c2:=l01Below_fn hc (pgD (obC C z) 4 8).2 16 (by decide)
   have c3:=l01Below_fn hc (pgD (obC C z) 4 8).2.next 12 (by decide)
   have b2:=(pgD (obC C z) 4 8).2.below_rng (n:=16) (by decide)
   have b3:=(pgD (obC C z) 4 8).2.next.below_rng (n:=12) (by decide)
   have c4:=moveDraw_fn (obC C z)
   have hll:=obL_len C z
   have el:obL C (z+1)=obL C z++[obX (obC C z)]:=rfl
   have ec:obC C (z+1)=(pgD (obC C z) 4 8).2.next.next:=rfl
   have o1:=l01Once_fn hc (obC C z) 6 (by decide)
   try simp (maxSteps:=9^9) only[go_sem]
   refine CondW_dec (fun hA=>?_) (fun hA=>?_)
   ·try simp (maxSteps:=9^9) only[go_sem]
    repeat refine AI ?_
    refine CallW.c false (c1) ?_
    try simp (maxSteps:=9^9) only[go_sem]
    repeat refine AI ?_
    refine CallW.c false (c2) ?_
    try simp (maxSteps:=9^9) only[go_sem]
    repeat refine AI ?_
    repeat refine AI ?_
    refine CallW.c false (c3) ?_
    try simp (maxSteps:=9^9) only[go_sem]
    repeat refine AI ?_
    repeat refine AI ?_
    refine cw c4 ?_
    try simp (maxSteps:=9^9) only[go_sem]
    try simp (maxSteps:=9^9) only[go_sem,hll]
    repeat refine AI ?_
    refine LoopK.mk (0+1) ?_ (by omega) (by omega)
    dsimp only
    rw [show 0+1=z+1 by omega,ec,el,show obL C z=[] by subst hz; rfl,List.nil_append]
    refine Wk.mk [(9,7)] ?_
    try simp (maxSteps:=9^9) only[go_sem]
    try (and_intros<;>first|rfl|omega|exact ⟨_,rfl⟩)
   ·have e:N=z:=by omega
    subst e
    have eL:obL C N=[]:=by rw [hz]; rfl
    have b4:=(obC C N).next.below_rng (n:=8) (by decide)
    by_cases hB:(obC C N).below 6=0
    ·rw [decide_eq_true hB] at o1
     have eC:skC C N=(obC C N).next.next:=if_pos hB
     have eO:skO C N=obL C N++[rcX (6+(obC C N).next.below 8)]:=congrArg (obL C N++·) (if_pos hB)
     have c5:=l01Below_fn hc (obC C N).next 8 (by decide)
     have c6:=l01Below_fn hc (obC C N).next.next 3 (by decide)
     have b6:=(obC C N).next.next.below_rng (n:=3) (by decide)
     have eM:(obC C N).next.next.below 3=(skM C N:Int):=by unfold skM; rw [eC]; omega
     rw [eM] at c6 b6
     rw [eO,eC]
     rw [eL]
     generalize skM C N=M at *
     try simp (maxSteps:=9^9) only[go_sem]
     repeat refine AI ?_
     refine CallW.c false (o1) ?_
     try simp (maxSteps:=9^9) only[go_sem]
     repeat refine AI ?_
     refine CallW.c false (c5) ?_
     try simp (maxSteps:=9^9) only[go_sem]
     repeat refine AI ?_
     try simp (maxSteps:=9^9) only[go_sem]
     repeat refine AI ?_
     repeat refine AI ?_
     refine CallW.c false (c6) ?_
     try simp (maxSteps:=9^9) only[go_sem]
     generalize (obC C N).next.next.next=X at *
     obtain ⟨z2,hz2⟩:∃ z2:Nat,z2=0:=⟨0,rfl⟩
     refine LoopG.intro _ _ _ (fun m:Nat=>match m with|0=>⟨[(0,.ptr 0 0),(2,.ptr 1 0),(3,.ptr 3 0),(7,.sc (.int .i64 ((M:Int) - z2)))],[(0,.bx (some b) (.fx u0 .u8 code :: (cz (tbC X z2)).map fun z=>.sc z)),(1,.box [.sc (.int .i64 0),.sc (.int .i64 0),.sc (.int .i64 0),.sc (.int .i64 0),.sc (.slice none 0 0),.sc (.slice none 0 0),.sc (.slice none 0 0)]),(2,.odat tVec R),(3,.box [.sc (.int .i64 0),.sc (.int .i64 0),.sc (.int .i64 (14+H1)),.sc (.int .i64 (12+H2)),.row 2 0,.row 9 0,.sc (.slice none 0 0)]),(9,.row 25 (.slice tVec) 0 true ([rcX (6+(obC C N).next.below 8)]))]⟩|m+1=>⟨[(0,.ptr 0 0),(2,.ptr 1 0),(3,.ptr 3 0),(7,.sc (.int .i64 ((M:Int) - (m+1:Nat))))],[(0,.bx (some b) (.fx u0 .u8 code :: (cz (tbC X (m+1))).map fun z=>.sc z)),(1,.box [.sc (.int .i64 0),.sc (.int .i64 0),.sc (.int .i64 0),.sc (.int .i64 0),.sc (.slice none 0 0),.sc (.slice none 0 0),.sc (.slice none 0 0)]),(2,.odat tVec R),(3,.box [.sc (.int .i64 0),.sc (.int .i64 0),.sc (.int .i64 (14+H1)),.sc (.int .i64 (12+H2)),.row 2 0,.row 9 0,.row 10 0]),(9,.row 25 (.slice tVec) 0 true ([rcX (6+(obC C N).next.below 8)])),(10,.row 24 tVec 0 true (tbL X (m+1)))]⟩) (fun m=>m<=M) (fun m=>M - m) 0 ?_ (Nat.zero_le _) ?_
     ·dsimp only
      rw [show tbC X z2=X by subst hz2; rfl]
      refine Wk.mk [(9,6)] ?_
      try simp (maxSteps:=9^9) only[go_sem]
      try (and_intros<;>first|rfl|omega|exact ⟨_,rfl⟩)
      all_goals (first|rfl|omega)
     ·rintro m hk
      rcases m with _|m
      ·have c1:=l01Below_fn hc (tbC X z2) 18 (by decide)
       have c2:=l01Below_fn hc (tbC X z2).next 14 (by decide)
       have b1:=(tbC X z2).below_rng (n:=18) (by decide)
       have b2:=(tbC X z2).next.below_rng (n:=14) (by decide)
       have hll:=tbL_len X z2
       have el:tbL X (z2+1)=tbL X z2++[(3+(tbC X z2).below 18,3+(tbC X z2).next.below 14)]:=rfl
       have ec:tbC X (z2+1)=(tbC X z2).next.next:=rfl
       try simp (maxSteps:=9^9) only[go_sem]
       refine CondW_dec (fun hA=>?_) (fun hA=>?_)
       ·try simp (maxSteps:=9^9) only[go_sem]
        repeat refine AI ?_
        refine CallW.c false (c1) ?_
        try simp (maxSteps:=9^9) only[go_sem]
        repeat refine AI ?_
        repeat refine AI ?_
        refine CallW.c false (c2) ?_
        try simp (maxSteps:=9^9) only[go_sem]
        repeat refine AI ?_
        try simp (maxSteps:=9^9) only[go_sem,hll]
        repeat refine AI ?_
        refine LoopK.mk (0+1) ?_ (by omega) (by omega)
        dsimp only
        rw [show 0+1=z2+1 by omega,ec,el,show tbL X z2=[] by subst hz2; rfl,List.nil_append]
        refine Wk.mk [(10,11)] ?_
        try simp (maxSteps:=9^9) only[go_sem]
        try (and_intros<;>first|rfl|omega|exact ⟨_,rfl⟩)
       ·have e:M=z2:=by omega
        rw [e,show tbL X z2=[] by rw [hz2]; rfl]
        try simp (maxSteps:=9^9) only[go_sem]
        all_goals repeat refine AI ?_
        all_goals first|kernel_rfl|omega|rfl
      ·have c1:=l01Below_fn hc (tbC X (m+1)) 18 (by decide)
       have c2:=l01Below_fn hc (tbC X (m+1)).next 14 (by decide)
       have b1:=(tbC X (m+1)).below_rng (n:=18) (by decide)
       have b2:=(tbC X (m+1)).next.below_rng (n:=14) (by decide)
       have hll:=tbL_len X (m+1)
       have el:tbL X ((m+1)+1)=tbL X (m+1)++[(3+(tbC X (m+1)).below 18,3+(tbC X (m+1)).next.below 14)]:=rfl
       have ec:tbC X ((m+1)+1)=(tbC X (m+1)).next.next:=rfl
       try simp (maxSteps:=9^9) only[go_sem]
       refine CondW_dec (fun hA=>?_) (fun hA=>?_)
       ·try simp (maxSteps:=9^9) only[go_sem]
        repeat refine AI ?_
        refine CallW.c false (c1) ?_
        try simp (maxSteps:=9^9) only[go_sem]
        repeat refine AI ?_
        repeat refine AI ?_
        refine CallW.c false (c2) ?_
        try simp (maxSteps:=9^9) only[go_sem]
        repeat refine AI ?_
        try simp (maxSteps:=9^9) only[go_sem,hll]
        repeat refine AI ?_
        refine LoopK.mk (m+1+1) ?_ (by omega) (by omega)
        dsimp only
        rw [ec,el]
        exact WK
       ·have e:M=m+1:=by omega
        rw [e]
        try simp (maxSteps:=9^9) only[go_sem]
        all_goals repeat refine AI ?_
        all_goals first|kernel_rfl|omega|rfl
    ·rw [decide_eq_false hB] at o1
     have eC:skC C N=(obC C N).next:=if_neg hB
     have eO:skO C N=obL C N:=(congrArg (obL C N++·) (if_neg hB)).trans (List.append_nil _)
     have c6:=l01Below_fn hc (obC C N).next 3 (by decide)
     have b6:=(obC C N).next.below_rng (n:=3) (by decide)
     have eM:(obC C N).next.below 3=(skM C N:Int):=by unfold skM; rw [eC]; omega
     rw [eM] at c6 b6
     rw [eO,eC]
     rw [eL]
     generalize skM C N=M at *
     try simp (maxSteps:=9^9) only[go_sem]
     repeat refine AI ?_
     refine CallW.c false (o1) ?_
     try simp (maxSteps:=9^9) only[go_sem]
     repeat refine AI ?_
     refine CallW.c false (c6) ?_
     try simp (maxSteps:=9^9) only[go_sem]
     generalize (obC C N).next.next=X at *
     obtain ⟨z2,hz2⟩:∃ z2:Nat,z2=0:=⟨0,rfl⟩
     refine LoopG.intro _ _ _ (fun m:Nat=>match m with|0=>⟨[(0,.ptr 0 0),(2,.ptr 1 0),(3,.ptr 3 0),(7,.sc (.int .i64 ((M:Int) - z2)))],[(0,.bx (some b) (.fx u0 .u8 code :: (cz (tbC X z2)).map fun z=>.sc z)),(1,.box [.sc (.int .i64 0),.sc (.int .i64 0),.sc (.int .i64 0),.sc (.int .i64 0),.sc (.slice none 0 0),.sc (.slice none 0 0),.sc (.slice none 0 0)]),(2,.odat tVec R),(3,.box [.sc (.int .i64 0),.sc (.int .i64 0),.sc (.int .i64 (14+H1)),.sc (.int .i64 (12+H2)),.row 2 0,.sc (.slice none 0 0),.sc (.slice none 0 0)])]⟩|m+1=>⟨[(0,.ptr 0 0),(2,.ptr 1 0),(3,.ptr 3 0),(7,.sc (.int .i64 ((M:Int) - (m+1:Nat))))],[(0,.bx (some b) (.fx u0 .u8 code :: (cz (tbC X (m+1))).map fun z=>.sc z)),(1,.box [.sc (.int .i64 0),.sc (.int .i64 0),.sc (.int .i64 0),.sc (.int .i64 0),.sc (.slice none 0 0),.sc (.slice none 0 0),.sc (.slice none 0 0)]),(2,.odat tVec R),(3,.box [.sc (.int .i64 0),.sc (.int .i64 0),.sc (.int .i64 (14+H1)),.sc (.int .i64 (12+H2)),.row 2 0,.sc (.slice none 0 0),.row 10 0]),(10,.row 24 tVec 0 true (tbL X (m+1)))]⟩) (fun m=>m<=M) (fun m=>M - m) 0 ?_ (Nat.zero_le _) ?_
     ·dsimp only
      rw [show tbC X z2=X by subst hz2; rfl]
      refine Wk.mk [] ?_
      try simp (maxSteps:=9^9) only[go_sem]
      try (and_intros<;>first|rfl|omega|exact ⟨_,rfl⟩)
      all_goals (first|rfl|omega)
     ·rintro m hk
      rcases m with _|m
      ·have c1:=l01Below_fn hc (tbC X z2) 18 (by decide)
       have c2:=l01Below_fn hc (tbC X z2).next 14 (by decide)
       have b1:=(tbC X z2).below_rng (n:=18) (by decide)
       have b2:=(tbC X z2).next.below_rng (n:=14) (by decide)
       have hll:=tbL_len X z2
       have el:tbL X (z2+1)=tbL X z2++[(3+(tbC X z2).below 18,3+(tbC X z2).next.below 14)]:=rfl
       have ec:tbC X (z2+1)=(tbC X z2).next.next:=rfl
       try simp (maxSteps:=9^9) only[go_sem]
       refine CondW_dec (fun hA=>?_) (fun hA=>?_)
       ·try simp (maxSteps:=9^9) only[go_sem]
        repeat refine AI ?_
        refine CallW.c false (c1) ?_
        try simp (maxSteps:=9^9) only[go_sem]
        repeat refine AI ?_
        repeat refine AI ?_
        refine CallW.c false (c2) ?_
        try simp (maxSteps:=9^9) only[go_sem]
        repeat refine AI ?_
        try simp (maxSteps:=9^9) only[go_sem,hll]
        repeat refine AI ?_
        refine LoopK.mk (0+1) ?_ (by omega) (by omega)
        dsimp only
        rw [show 0+1=z2+1 by omega,ec,el,show tbL X z2=[] by subst hz2; rfl,List.nil_append]
        refine Wk.mk [(10,5)] ?_
        try simp (maxSteps:=9^9) only[go_sem]
        try (and_intros<;>first|rfl|omega|exact ⟨_,rfl⟩)
       ·have e:M=z2:=by omega
        rw [e,show tbL X z2=[] by rw [hz2]; rfl]
        try simp (maxSteps:=9^9) only[go_sem]
        all_goals repeat refine AI ?_
        all_goals first|kernel_rfl|omega|rfl
      ·have c1:=l01Below_fn hc (tbC X (m+1)) 18 (by decide)
       have c2:=l01Below_fn hc (tbC X (m+1)).next 14 (by decide)
       have b1:=(tbC X (m+1)).below_rng (n:=18) (by decide)
       have b2:=(tbC X (m+1)).next.below_rng (n:=14) (by decide)
       have hll:=tbL_len X (m+1)
       have el:tbL X ((m+1)+1)=tbL X (m+1)++[(3+(tbC X (m+1)).below 18,3+(tbC X (m+1)).next.below 14)]:=rfl
       have ec:tbC X ((m+1)+1)=(tbC X (m+1)).next.next:=rfl
       try simp (maxSteps:=9^9) only[go_sem]
       refine CondW_dec (fun hA=>?_) (fun hA=>?_)
       ·try simp (maxSteps:=9^9) only[go_sem]
        repeat refine AI ?_
        refine CallW.c false (c1) ?_
        try simp (maxSteps:=9^9) only[go_sem]
        repeat refine AI ?_
        repeat refine AI ?_
        refine CallW.c false (c2) ?_
        try simp (maxSteps:=9^9) only[go_sem]
        repeat refine AI ?_
        try simp (maxSteps:=9^9) only[go_sem,hll]
        repeat refine AI ?_
        refine LoopK.mk (m+1+1) ?_ (by omega) (by omega)
        dsimp only
        rw [ec,el]
        exact WK
       ·have e:M=m+1:=by omega
        rw [e]
        try simp (maxSteps:=9^9) only[go_sem]
        all_goals repeat refine AI ?_
        all_goals first|kernel_rfl|omega|rfl
  ·have c1:=l06Draw_fn hc (obC C (k+1)) 4 (by decide)
   have c2:=l01Below_fn hc (pgD (obC C (k+1)) 4 8).2 16 (by decide)
   have c3:=l01Below_fn hc (pgD (obC C (k+1)) 4 8).2.next 12 (by decide)
   have b2:=(pgD (obC C (k+1)) 4 8).2.below_rng (n:=16) (by decide)
   have b3:=(pgD (obC C (k+1)) 4 8).2.next.below_rng (n:=12) (by decide)
   have c4:=moveDraw_fn (obC C (k+1))
   have hll:=obL_len C (k+1)
   have el:obL C ((k+1)+1)=obL C (k+1)++[obX (obC C (k+1))]:=rfl
   have ec:obC C ((k+1)+1)=(pgD (obC C (k+1)) 4 8).2.next.next:=rfl
   have o1:=l01Once_fn hc (obC C (k+1)) 6 (by decide)
   try simp (maxSteps:=9^9) only[go_sem]
   refine CondW_dec (fun hA=>?_) (fun hA=>?_)
   ·try simp (maxSteps:=9^9) only[go_sem]
    repeat refine AI ?_
    refine CallW.c false (c1) ?_
    try simp (maxSteps:=9^9) only[go_sem]
    repeat refine AI ?_
    refine CallW.c false (c2) ?_
    try simp (maxSteps:=9^9) only[go_sem]
    repeat refine AI ?_
    repeat refine AI ?_
    refine CallW.c false (c3) ?_
    try simp (maxSteps:=9^9) only[go_sem]
    repeat refine AI ?_
    repeat refine AI ?_
    refine cw c4 ?_
    try simp (maxSteps:=9^9) only[go_sem]
    try simp (maxSteps:=9^9) only[go_sem,hll]
    repeat refine AI ?_
    refine LoopK.mk (k+1+1) ?_ (by omega) (by omega)
    dsimp only
    rw [ec,el]
    exact WK
   ·have e:N=k+1:=by omega
    subst e
    have b4:=(obC C (k+1)).next.below_rng (n:=8) (by decide)
    by_cases hB:(obC C (k+1)).below 6=0
    ·rw [decide_eq_true hB] at o1
     have eC:skC C (k+1)=(obC C (k+1)).next.next:=if_pos hB
     have eO:skO C (k+1)=obL C (k+1)++[rcX (6+(obC C (k+1)).next.below 8)]:=congrArg (obL C (k+1)++·) (if_pos hB)
     have c5:=l01Below_fn hc (obC C (k+1)).next 8 (by decide)
     have c6:=l01Below_fn hc (obC C (k+1)).next.next 3 (by decide)
     have b6:=(obC C (k+1)).next.next.below_rng (n:=3) (by decide)
     have eM:(obC C (k+1)).next.next.below 3=(skM C (k+1):Int):=by unfold skM; rw [eC]; omega
     rw [eM] at c6 b6
     rw [eO,eC]
     generalize skM C (k+1)=M at *
     try simp (maxSteps:=9^9) only[go_sem]
     repeat refine AI ?_
     refine CallW.c false (o1) ?_
     try simp (maxSteps:=9^9) only[go_sem]
     try simp (maxSteps:=9^9) only[go_sem,hll]
     repeat refine AI ?_
     refine CallW.c false (c5) ?_
     try simp (maxSteps:=9^9) only[go_sem]
     repeat refine AI ?_
     try simp (maxSteps:=9^9) only[go_sem,hll]
     repeat refine AI ?_
     repeat refine AI ?_
     refine CallW.c false (c6) ?_
     try simp (maxSteps:=9^9) only[go_sem]
     generalize (obC C (k+1)).next.next.next=X at *
     obtain ⟨z2,hz2⟩:∃ z2:Nat,z2=0:=⟨0,rfl⟩
     refine LoopG.intro _ _ _ (fun m:Nat=>match m with|0=>⟨[(0,.ptr 0 0),(2,.ptr 1 0),(3,.ptr 3 0),(7,.sc (.int .i64 ((M:Int) - z2)))],[(0,.bx (some b) (.fx u0 .u8 code :: (cz (tbC X z2)).map fun z=>.sc z)),(1,.box [.sc (.int .i64 0),.sc (.int .i64 0),.sc (.int .i64 0),.sc (.int .i64 0),.sc (.slice none 0 0),.sc (.slice none 0 0),.sc (.slice none 0 0)]),(2,.odat tVec R),(3,.box [.sc (.int .i64 0),.sc (.int .i64 0),.sc (.int .i64 (14+H1)),.sc (.int .i64 (12+H2)),.row 2 0,.row 9 0,.sc (.slice none 0 0)]),(9,.row 25 (.slice tVec) 0 true (obL C (k+1)++[rcX (6+(obC C (k+1)).next.below 8)]))]⟩|m+1=>⟨[(0,.ptr 0 0),(2,.ptr 1 0),(3,.ptr 3 0),(7,.sc (.int .i64 ((M:Int) - (m+1:Nat))))],[(0,.bx (some b) (.fx u0 .u8 code :: (cz (tbC X (m+1))).map fun z=>.sc z)),(1,.box [.sc (.int .i64 0),.sc (.int .i64 0),.sc (.int .i64 0),.sc (.int .i64 0),.sc (.slice none 0 0),.sc (.slice none 0 0),.sc (.slice none 0 0)]),(2,.odat tVec R),(3,.box [.sc (.int .i64 0),.sc (.int .i64 0),.sc (.int .i64 (14+H1)),.sc (.int .i64 (12+H2)),.row 2 0,.row 9 0,.row 10 0]),(9,.row 25 (.slice tVec) 0 true (obL C (k+1)++[rcX (6+(obC C (k+1)).next.below 8)])),(10,.row 24 tVec 0 true (tbL X (m+1)))]⟩) (fun m=>m<=M) (fun m=>M - m) 0 ?_ (Nat.zero_le _) ?_
     ·dsimp only
      rw [show tbC X z2=X by subst hz2; rfl]
      refine Wk.mk [] ?_
      try simp (maxSteps:=9^9) only[go_sem]
      try (and_intros<;>first|rfl|omega|exact ⟨_,rfl⟩)
      all_goals (first|rfl|omega)
     ·rintro m hk
      rcases m with _|m
      ·have c1:=l01Below_fn hc (tbC X z2) 18 (by decide)
       have c2:=l01Below_fn hc (tbC X z2).next 14 (by decide)
       have b1:=(tbC X z2).below_rng (n:=18) (by decide)
       have b2:=(tbC X z2).next.below_rng (n:=14) (by decide)
       have hll:=tbL_len X z2
       have el:tbL X (z2+1)=tbL X z2++[(3+(tbC X z2).below 18,3+(tbC X z2).next.below 14)]:=rfl
       have ec:tbC X (z2+1)=(tbC X z2).next.next:=rfl
       try simp (maxSteps:=9^9) only[go_sem]
       refine CondW_dec (fun hA=>?_) (fun hA=>?_)
       ·try simp (maxSteps:=9^9) only[go_sem]
        repeat refine AI ?_
        refine CallW.c false (c1) ?_
        try simp (maxSteps:=9^9) only[go_sem]
        repeat refine AI ?_
        repeat refine AI ?_
        refine CallW.c false (c2) ?_
        try simp (maxSteps:=9^9) only[go_sem]
        repeat refine AI ?_
        try simp (maxSteps:=9^9) only[go_sem,hll]
        repeat refine AI ?_
        refine LoopK.mk (0+1) ?_ (by omega) (by omega)
        dsimp only
        rw [show 0+1=z2+1 by omega,ec,el,show tbL X z2=[] by subst hz2; rfl,List.nil_append]
        refine Wk.mk [(10,11)] ?_
        try simp (maxSteps:=9^9) only[go_sem]
        try (and_intros<;>first|rfl|omega|exact ⟨_,rfl⟩)
       ·have e:M=z2:=by omega
        rw [e,show tbL X z2=[] by rw [hz2]; rfl]
        try simp (maxSteps:=9^9) only[go_sem]
        all_goals repeat refine AI ?_
        all_goals first|kernel_rfl|omega|rfl
      ·have c1:=l01Below_fn hc (tbC X (m+1)) 18 (by decide)
       have c2:=l01Below_fn hc (tbC X (m+1)).next 14 (by decide)
       have b1:=(tbC X (m+1)).below_rng (n:=18) (by decide)
       have b2:=(tbC X (m+1)).next.below_rng (n:=14) (by decide)
       have hll:=tbL_len X (m+1)
       have el:tbL X ((m+1)+1)=tbL X (m+1)++[(3+(tbC X (m+1)).below 18,3+(tbC X (m+1)).next.below 14)]:=rfl
       have ec:tbC X ((m+1)+1)=(tbC X (m+1)).next.next:=rfl
       try simp (maxSteps:=9^9) only[go_sem]
       refine CondW_dec (fun hA=>?_) (fun hA=>?_)
       ·try simp (maxSteps:=9^9) only[go_sem]
        repeat refine AI ?_
        refine CallW.c false (c1) ?_
        try simp (maxSteps:=9^9) only[go_sem]
        repeat refine AI ?_
        repeat refine AI ?_
        refine CallW.c false (c2) ?_
        try simp (maxSteps:=9^9) only[go_sem]
        repeat refine AI ?_
        try simp (maxSteps:=9^9) only[go_sem,hll]
        repeat refine AI ?_
        refine LoopK.mk (m+1+1) ?_ (by omega) (by omega)
        dsimp only
        rw [ec,el]
        exact WK
       ·have e:M=m+1:=by omega
        rw [e]
        try simp (maxSteps:=9^9) only[go_sem]
        all_goals repeat refine AI ?_
        all_goals first|kernel_rfl|omega|rfl
    ·rw [decide_eq_false hB] at o1
     have eC:skC C (k+1)=(obC C (k+1)).next:=if_neg hB
     have eO:skO C (k+1)=obL C (k+1):=(congrArg (obL C (k+1)++·) (if_neg hB)).trans (List.append_nil _)
     have c6:=l01Below_fn hc (obC C (k+1)).next 3 (by decide)
     have b6:=(obC C (k+1)).next.below_rng (n:=3) (by decide)
     have eM:(obC C (k+1)).next.below 3=(skM C (k+1):Int):=by unfold skM; rw [eC]; omega
     rw [eM] at c6 b6
     rw [eO,eC]
     generalize skM C (k+1)=M at *
     try simp (maxSteps:=9^9) only[go_sem]
     repeat refine AI ?_
     refine CallW.c false (o1) ?_
     try simp (maxSteps:=9^9) only[go_sem]
     try simp (maxSteps:=9^9) only[go_sem,hll]
     repeat refine AI ?_
     refine CallW.c false (c6) ?_
     try simp (maxSteps:=9^9) only[go_sem]
     generalize (obC C (k+1)).next.next=X at *
     obtain ⟨z2,hz2⟩:∃ z2:Nat,z2=0:=⟨0,rfl⟩
     refine LoopG.intro _ _ _ (fun m:Nat=>match m with|0=>⟨[(0,.ptr 0 0),(2,.ptr 1 0),(3,.ptr 3 0),(7,.sc (.int .i64 ((M:Int) - z2)))],[(0,.bx (some b) (.fx u0 .u8 code :: (cz (tbC X z2)).map fun z=>.sc z)),(1,.box [.sc (.int .i64 0),.sc (.int .i64 0),.sc (.int .i64 0),.sc (.int .i64 0),.sc (.slice none 0 0),.sc (.slice none 0 0),.sc (.slice none 0 0)]),(2,.odat tVec R),(3,.box [.sc (.int .i64 0),.sc (.int .i64 0),.sc (.int .i64 (14+H1)),.sc (.int .i64 (12+H2)),.row 2 0,.row 9 0,.sc (.slice none 0 0)]),(9,.row 25 (.slice tVec) 0 true (obL C (k+1)))]⟩|m+1=>⟨[(0,.ptr 0 0),(2,.ptr 1 0),(3,.ptr 3 0),(7,.sc (.int .i64 ((M:Int) - (m+1:Nat))))],[(0,.bx (some b) (.fx u0 .u8 code :: (cz (tbC X (m+1))).map fun z=>.sc z)),(1,.box [.sc (.int .i64 0),.sc (.int .i64 0),.sc (.int .i64 0),.sc (.int .i64 0),.sc (.slice none 0 0),.sc (.slice none 0 0),.sc (.slice none 0 0)]),(2,.odat tVec R),(3,.box [.sc (.int .i64 0),.sc (.int .i64 0),.sc (.int .i64 (14+H1)),.sc (.int .i64 (12+H2)),.row 2 0,.row 9 0,.row 10 0]),(9,.row 25 (.slice tVec) 0 true (obL C (k+1))),(10,.row 24 tVec 0 true (tbL X (m+1)))]⟩) (fun m=>m<=M) (fun m=>M - m) 0 ?_ (Nat.zero_le _) ?_
     ·dsimp only
      rw [show tbC X z2=X by subst hz2; rfl]
      refine Wk.mk [] ?_
      try simp (maxSteps:=9^9) only[go_sem]
      try (and_intros<;>first|rfl|omega|exact ⟨_,rfl⟩)
      all_goals (first|rfl|omega)
     ·rintro m hk
      rcases m with _|m
      ·have c1:=l01Below_fn hc (tbC X z2) 18 (by decide)
       have c2:=l01Below_fn hc (tbC X z2).next 14 (by decide)
       have b1:=(tbC X z2).below_rng (n:=18) (by decide)
       have b2:=(tbC X z2).next.below_rng (n:=14) (by decide)
       have hll:=tbL_len X z2
       have el:tbL X (z2+1)=tbL X z2++[(3+(tbC X z2).below 18,3+(tbC X z2).next.below 14)]:=rfl
       have ec:tbC X (z2+1)=(tbC X z2).next.next:=rfl
       try simp (maxSteps:=9^9) only[go_sem]
       refine CondW_dec (fun hA=>?_) (fun hA=>?_)
       ·try simp (maxSteps:=9^9) only[go_sem]
        repeat refine AI ?_
        refine CallW.c false (c1) ?_
        try simp (maxSteps:=9^9) only[go_sem]
        repeat refine AI ?_
        repeat refine AI ?_
        refine CallW.c false (c2) ?_
        try simp (maxSteps:=9^9) only[go_sem]
        repeat refine AI ?_
        try simp (maxSteps:=9^9) only[go_sem,hll]
        repeat refine AI ?_
        refine LoopK.mk (0+1) ?_ (by omega) (by omega)
        dsimp only
        rw [show 0+1=z2+1 by omega,ec,el,show tbL X z2=[] by subst hz2; rfl,List.nil_append]
        refine Wk.mk [(10,11)] ?_
        try simp (maxSteps:=9^9) only[go_sem]
        try (and_intros<;>first|rfl|omega|exact ⟨_,rfl⟩)
       ·have e:M=z2:=by omega
        rw [e,show tbL X z2=[] by rw [hz2]; rfl]
        try simp (maxSteps:=9^9) only[go_sem]
        all_goals repeat refine AI ?_
        all_goals first|kernel_rfl|omega|rfl
      ·have c1:=l01Below_fn hc (tbC X (m+1)) 18 (by decide)
       have c2:=l01Below_fn hc (tbC X (m+1)).next 14 (by decide)
       have b1:=(tbC X (m+1)).below_rng (n:=18) (by decide)
       have b2:=(tbC X (m+1)).next.below_rng (n:=14) (by decide)
       have hll:=tbL_len X (m+1)
       have el:tbL X ((m+1)+1)=tbL X (m+1)++[(3+(tbC X (m+1)).below 18,3+(tbC X (m+1)).next.below 14)]:=rfl
       have ec:tbC X ((m+1)+1)=(tbC X (m+1)).next.next:=rfl
       try simp (maxSteps:=9^9) only[go_sem]
       refine CondW_dec (fun hA=>?_) (fun hA=>?_)
       ·try simp (maxSteps:=9^9) only[go_sem]
        repeat refine AI ?_
        refine CallW.c false (c1) ?_
        try simp (maxSteps:=9^9) only[go_sem]
        repeat refine AI ?_
        repeat refine AI ?_
        refine CallW.c false (c2) ?_
        try simp (maxSteps:=9^9) only[go_sem]
        repeat refine AI ?_
        try simp (maxSteps:=9^9) only[go_sem,hll]
        repeat refine AI ?_
        refine LoopK.mk (m+1+1) ?_ (by omega) (by omega)
        dsimp only
        rw [ec,el]
        exact WK
       ·have e:M=m+1:=by omega
        rw [e]
        try simp (maxSteps:=9^9) only[go_sem]
        all_goals repeat refine AI ?_
        all_goals first|kernel_rfl|omega|rfl
section
variable {vs:List (Int × Int)} {a:Int} {lims:List Int}
end
variable {code:List Int}
variable {code:List Int}
noncomputable def mkSc (code:List Int) (hc:code.length<=1048576):DSc:=scD (Cu.new code hc)
theorem mkSc_ok (hc:code.length<=1048576):sceneB (mkSc code hc)=true:=scD_ok _
theorem MakeScene_fn (hc:code.length<=1048576):Fn Tryz.prog 4 [⟨.slice .u8,code⟩] false [⟨tScene,mkSc code hc⟩]:=by
 rw [mkSc]
 refine fe Tryz.func4 Tryz.ntmps4 Tryz.results4 fun hwf=>?_
 try simp (maxSteps:=9^9) only[go_sem]
 repeat refine AI ?_
 refine CallW.nb (l01New_fn hc) ?_
 try simp (maxSteps:=9^9) only[go_sem]
 repeat refine AI ?_
 refine CallW.c false (l10Draw_fn hc (Cu.new code hc)) ?_
 try simp (maxSteps:=9^9) only[go_sem]
 all_goals repeat refine AI ?_
 all_goals first|kernel_rfl|omega|rfl
theorem shfD_no {s:DSn} {v:DV}:(shfD s v).2=false->(shfD s v).1=s:=by
 unfold shfD
 split
 ·intro _; rfl
 ·split
  ·intro h; cases h
  ·intro _; rfl
theorem chgH_self {s:DSn} (hs:sceneB s=true):chgH (rdOf s) s=[]:=by
 unfold chgH
 rw [if_pos hs]
 exact chg_self s 4 (Nat.le_refl _)
set_option maxHeartbeats 4000000 in
theorem lawUpdate_fn (code:List Int):Fn Tryz.prog 3 [⟨.slice .u8,code⟩] false [⟨.bool,true⟩]:=by
 by_cases hc:code.length<=1048576
 rotate_left
 ·have d0:decide (((1048576:Int)) < (code.length:Int))=true:=decide_eq_true (by omega)
  refine fe Tryz.func3 Tryz.ntmps3 Tryz.results3 fun hwf=>?_
  try simp (maxSteps:=9^9) only[go_sem,d0]
  all_goals repeat refine AI ?_
  all_goals first|kernel_rfl|omega|rfl
 have d0:decide (((1048576:Int)) < (code.length:Int))=false:=decide_eq_false (by omega)
 have cS:=MakeScene_fn hc
 have hs:=mkSc_ok hc
 have cN:=MakeNum_fn hc 1 (by decide)
 have rN:=mkNum_rng hc 1
 generalize mkSc code hc=s at *
 generalize mkNum code hc 1=n at *
 have hm:0<=n % 3/\n % 3 < 3:=⟨Int.emod_nonneg _ (by decide),Int.emod_lt_of_pos _ (by decide)⟩
 have cB:=BuildRoad_fn s hs
 have cH:=ShiftObstacle_fn s hs (n % 3,1) ⟨by show (n % 3).natAbs<=500; omega,by show (1:Int).natAbs<=500; decide⟩
 have ht:=shfD_ok hs (n % 3,1)
 have hno:=shfD_no (s:=s) (v:=(n % 3,1))
 generalize shfD s (n % 3,1)=tm at *
 obtain ⟨t,m⟩:=tm
 dsimp only at cH ht hno
 have cU:=UpdateRoad_fn s t hs ht
 have cW:=BuildRoad_fn t ht
 have cR:=SameRoad_fn (rdOf t)
 have cC:=ChangedI_fn (rdOf s) t
 have hn:=chgH_len (rdOf s) t
 cases m
 ·obtain rfl:=hno rfl
  rw [chgH_self hs] at cU cC
  have z1:decide (((0:Nat):Int)<=4)=true:=by decide
  have z2:decide (((0:Nat):Int)=0)=true:=by decide
  generalize rdOf t=R at *
  refine fe Tryz.func3 Tryz.ntmps3 Tryz.results3 fun hwf=>?_
  try simp (maxSteps:=9^9) only[go_sem,d0]
  repeat refine AI ?_
  refine cw cS ?_
  try simp (maxSteps:=9^9) only[go_sem]
  repeat refine AI ?_
  repeat refine AI ?_
  refine cw cB ?_
  try simp (maxSteps:=9^9) only[go_sem]
  repeat refine AI ?_
  repeat refine AI ?_
  refine cw cN ?_
  try simp (maxSteps:=9^9) only[go_sem]
  repeat refine AI ?_
  refine RemW.pos (by omega) (by omega) ?_
  try simp (maxSteps:=9^9) only[go_sem]
  repeat refine AI ?_
  repeat refine AI ?_
  refine cw cH ?_
  try simp (maxSteps:=9^9) only[go_sem]
  repeat refine AI ?_
  repeat refine AI ?_
  refine cw cU ?_
  try simp (maxSteps:=9^9) only[go_sem]
  repeat refine AI ?_
  repeat refine AI ?_
  refine cw cW ?_
  try simp (maxSteps:=9^9) only[go_sem]
  repeat refine AI ?_
  repeat refine AI ?_
  refine cw cR ?_
  try simp (maxSteps:=9^9) only[go_sem]
  repeat refine AI ?_
  repeat refine AI ?_
  refine cw cC ?_
  try simp (maxSteps:=9^9) only[go_sem]
  try simp (maxSteps:=9^9) only[go_sem,z1,z2]
  all_goals repeat refine AI ?_
  all_goals first|kernel_rfl|omega|rfl
 ·have hn2:decide (((chgH (rdOf s) t).length:Int)<=4)=true:=decide_eq_true (by omega)
  generalize chgH (rdOf s) t=hd at *
  have hn3:decide ((hd.length:Int)=(hd.length:Int))=true:=decide_eq_true rfl
  generalize rdOf t=R at *
  generalize rdOf s=R0 at *
  refine fe Tryz.func3 Tryz.ntmps3 Tryz.results3 fun hwf=>?_
  try simp (maxSteps:=9^9) only[go_sem,d0]
  repeat refine AI ?_
  refine cw cS ?_
  try simp (maxSteps:=9^9) only[go_sem]
  repeat refine AI ?_
  repeat refine AI ?_
  refine cw cB ?_
  try simp (maxSteps:=9^9) only[go_sem]
  repeat refine AI ?_
  repeat refine AI ?_
  refine cw cN ?_
  try simp (maxSteps:=9^9) only[go_sem]
  repeat refine AI ?_
  refine RemW.pos (by omega) (by omega) ?_
  try simp (maxSteps:=9^9) only[go_sem]
  repeat refine AI ?_
  repeat refine AI ?_
  refine cw cH ?_
  try simp (maxSteps:=9^9) only[go_sem]
  repeat refine AI ?_
  repeat refine AI ?_
  refine cw cU ?_
  try simp (maxSteps:=9^9) only[go_sem]
  repeat refine AI ?_
  repeat refine AI ?_
  refine cw cW ?_
  try simp (maxSteps:=9^9) only[go_sem]
  repeat refine AI ?_
  repeat refine AI ?_
  refine cw cR ?_
  try simp (maxSteps:=9^9) only[go_sem]
  repeat refine AI ?_
  repeat refine AI ?_
  refine cw cC ?_
  try simp (maxSteps:=9^9) only[go_sem]
  try simp (maxSteps:=9^9) only[go_sem,hn3,hn2]
  all_goals repeat refine AI ?_
  all_goals first|kernel_rfl|omega|rfl
end Go.Proofs.YtcbionahcldlnaaGreat.DW
