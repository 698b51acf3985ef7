/-
  Texts of a proof, one behind another: DwV, Dw29, Dw30, Dw31, Dw32, Dw33, Dw34, Dw83, Dw23, Dw24, Hl1, Dw40, LwA, Ints, Own, Copy, PtOr, Dw19, Dw41, Dw47, ArIn, Dw25, gh, Sz, To, Eq, Mark, Held, LwH, Dw26, Dw48, BtsR, Dw150, Sp1, Nu1, Dw152, Rw1, Drn, Rw2, Rw3, So4, Dw153, Dw157, Rw4, Dw158, So3, Dw159.
-/
import Derived.Deep.AppendLies
import Derived.Test.YtkaclgdhlpphhaaGreatProg
import Derived.Deep.RegionHeld3
import Derived.Deep.RegionLaw
import Derived.Shelf.GgSortFunc.InsertionK
import Derived.Lone
import Derived.StepT
import Derived.Calls
import Derived.Shelf.SlSortCmp.InsertionK
import Derived.Lib.QuietBelow
import Derived.Shelf.SlSortCmp.NoneTotal
import Derived.Shelf.SlLaysF0
import Derived.Shelf.SlSortCmp.QuietGrown
import Derived.Shelf.RegionOpenPlain
import Derived.WalkKit
import Derived.Deep.LoopGhost
import Derived.Deep.Draws
import Derived.Lib.Walk
import Derived.Sort.WalkB12
import Derived.Lib.SliceRun
import Derived.Test.YtkaclgdhlpphhaaGreatKSl3
set_option linter.all false
set_option maxRecDepth 100000
set_option maxHeartbeats 8000000
open Go.Proofs.Tryz
open Nat (le_refl zero_le le_trans gcd mul_le_mul_right add_zero mul_comm zero_add mod_lt not_lt_zero succ_mul le_of_eq div_le_self sub_self le_succ)
open List (mem_append replicate mem_singleton mem_cons mem_cons_self getElem?_eq_getElem mem_cons_of_mem length_append length_take getElem?_take mem_map getElem_of_mem length_map length_cons mem_flatten getElem_mem any_eq_false take_of_length_le append_nil pairwise_cons take_succ_eq_append_getElem size_toArray getElem_map map_append mapM_toArray mapM_cons mapM_nil)
open Array (getElem?_toList toList_map length_toList getElem?_modify size_modify)
open Int (mul_nonneg mul_neg)
open Bool (false_eq_true not_eq_true' and_eq_true_iff or_eq_true)
open Rat (intCast_mul not_lt not_le)
open Option (map_some)
noncomputable section
namespace Go.Proofs.YtkaclgdhlpphhaaGreat
namespace DW
open Go.RowKit
section
variable {P:Program} {T:TypeId->Option Ty}
def Al (T:TypeId->Option Ty) (rs:List ResultVar) (e:TypeId) (t:Ty) (l:List t.den) (σ:St):Prop :=
 match rs with
 | [r]=>∃k ver,oM T σ r=some (.row k ver)/\look σ.mem k=some (.row e t ver true l)
 | _=>False
theorem XK (hT:bD P T) {fn:Func} {c:Cx} {σ:St} {Γ:aC} {a:Act} {w:World} {e:TypeId} {t:Ty} {l:List t.den} (hs:aH c σ Γ a w) (hx:∀b,c.X b->¬ c.S b) (h:Al T fn.results.toList e t l σ) :
  ∃v,(results fn a.tmps).run P w=.ok v w/\∃fps:List (List Nat),v.oneCell'=true/\bh t.rp c.base w e v l fps/\kF c.base w fps.flatten/\∀b ∈ fps.flatten,v.ownBlock ≠ some b:=by
 unfold Al at h
 split at h
 ·rename_i r hr
  obtain⟨k,ver,h1,h2⟩:=h
  obtain⟨u,g1,g2⟩:=oA (P:=P) hT hs h1 rfl
  obtain⟨q1,B,hB,q2⟩:=g2
  rw[h2] at hB; injection hB with hB; subst hB
  obtain⟨fps,hg,hf,hgd,hon⟩:=hs.mm k _ h2
  have hu:u=Γ.hd k:=q2.2 rfl
  have hfr:fn.results=#[r]:=oO hr
  refine⟨u,?_,fps,q1,hu ▸ hg.up hx,(show gx c w fps.flatten from hf ▸ hon rfl).up hx,fun b hb he=>?_⟩
  ·rw[j5,hfr,mapM_toArray,map_eq_pure_bind,Sem.run_bind,Sem.run_bind]
   simp only[mapM_cons,mapM_nil,Sem.run_bind,g1,Result.andThen_ok,Sem.run_pure]
   simp
  ·exact (hgd b (hf ▸ hb)).2 ⟨k,_,h2,by show (Γ.hd k).ownBlock=some b; rw[<-hu]; exact he⟩
 ·exact h.elim
def ZA (T:TypeId->Option Ty) (rs:List ResultVar) (e:TypeId) (t:Ty) (l:List t.den) (ex:Exit) (σ:St):Prop :=
 match ex with
 | .normal|.ret=>Al T rs e t l σ
 | _=>False
@[go_sem] theorem aed {rs:List ResultVar} {e:TypeId} {t:Ty} {l:List t.den} {σ:St}:ZA T rs e t l .ret σ=Al T rs e t l σ:=(rfl)
attribute [go_sem] Al
theorem pz (hT:bD P T) (hmix:P.follows .mixedOrders=true) {f:FuncId} {fn:Func} {code:Code} {args:List aL} {e:TypeId} {t:Ty} {l:List t.den} (hf:P.funcs[f]? = some fn) (hname:(fn.name == "runtime.NumGoroutine")=false) (hb:fn.body=some code) (n:Nat) (hn:fn.ntmps=n) (rs:List ResultVar) (hr:fn.results=rs.toArray) (hna:args.length<=n)
  (h:(∀d ∈ args,Wf d.1 d.2)->AC P T n code (ZA T rs e t l) ⟨iE 0 args,[]⟩):xt P f args e t l:=by
 subst hn
 have h':(∀d ∈ args,Wf d.1 d.2)->AC P T fn.ntmps code (fun e' σ=>match e' with
   | .normal|.ret=>Al T fn.results.toList e t l σ
   | _=>False) ⟨iE 0 args,[]⟩:=fun hwf=>by
  have:=h hwf
  have e:(ZA T rs e t l)=fun e' σ=>match e' with
    | .normal|.ret=>Al T fn.results.toList e t l σ
    | _=>False:=by
   have hrl:fn.results.toList=rs:=by rw[hr]
   rw[hrl]; funext e' σ; cases e'<;>rfl
  rw[e] at this
  exact this
 have:=KB (VQ:=fun b S w v=>∃fps:List (List Nat),v.oneCell'=true/\bh t.rp b w e v l fps/\kF b w fps.flatten/\∀b ∈ fps.flatten,v.ownBlock ≠ some b) hT hmix hf hname hb hna (fun c σ Γ a w hs hx hq=>XK (P:=P) hT hs hx hq) h'
 refine⟨this.1,fun w vs S hg ha=>(this.2 w vs S hg ha).mono ?_⟩
 rintro e w' ⟨hb,v,he,fps,q1,q2,q3,q4⟩
 exact⟨hb,v,fps,he,q1,q2,q3,q4⟩
def Am (T:TypeId->Option Ty) (rs:List ResultVar) (e:TypeId) (t:Ty) (l:List t.den) (σ:St):Prop :=
 match rs with
 | [r]=>∃k ver o,oM T σ r=some (.row k ver)/\look σ.mem k=some (.row e t ver o l)
 | _=>False
theorem YN (hT:bD P T) {fn:Func} {c:Cx} {σ:St} {Γ:aC} {a:Act} {w:World} {e:TypeId} {t:Ty} {l:List t.den} (hs:aH c σ Γ a w) (hx:∀b,c.X b->¬ c.S b) (h:Am T fn.results.toList e t l σ) :
  ∃v,(results fn a.tmps).run P w=.ok v w/\∃fps:List (List Nat),v.oneCell'=true/\bh t.rp c.base w e v l fps/\∀b ∈ fps.flatten,(c.S b\/c.base<=b)/\v.ownBlock ≠ some b:=by
 unfold Am at h
 split at h
 ·rename_i r hr
  obtain⟨k,ver,o,h1,h2⟩:=h
  obtain⟨u,g1,g2⟩:=oA (P:=P) hT hs h1 rfl
  obtain⟨q1,B,hB,q2⟩:=g2
  rw[h2] at hB; injection hB with hB; subst hB
  obtain⟨fps,hg,hf,hgd,hon⟩:=hs.mm k _ h2
  have hu:u=Γ.hd k:=q2.2 rfl
  have hfr:fn.results=#[r]:=oO hr
  refine⟨u,?_,fps,q1,hu ▸ hg.up hx,fun b hb=>⟨(hgd b (hf ▸ hb)).1,fun he=>?_⟩⟩
  ·rw[j5,hfr,mapM_toArray,map_eq_pure_bind,Sem.run_bind,Sem.run_bind]
   simp only[mapM_cons,mapM_nil,Sem.run_bind,g1,Result.andThen_ok,Sem.run_pure]
   simp
  ·exact (hgd b (hf ▸ hb)).2 ⟨k,_,h2,by show (Γ.hd k).ownBlock=some b; rw[<-hu]; exact he⟩
 ·exact h.elim
def ZN (T:TypeId->Option Ty) (rs:List ResultVar) (e:TypeId) (t:Ty) (l:List t.den) (ex:Exit) (σ:St):Prop :=
 match ex with
 | .normal|.ret=>Am T rs e t l σ
 | _=>False
@[go_sem] theorem aeg {rs:List ResultVar} {e:TypeId} {t:Ty} {l:List t.den} {σ:St}:ZN T rs e t l .ret σ=Am T rs e t l σ:=(rfl)
attribute [go_sem] Am
theorem R0 (hT:bD P T) (hmix:P.follows .mixedOrders=true) {f:FuncId} {fn:Func} {code:Code} {args:List aL} {e:TypeId} {t:Ty} {l:List t.den} (hf:P.funcs[f]? = some fn) (hname:(fn.name == "runtime.NumGoroutine")=false) (hb:fn.body=some code) (n:Nat) (hn:fn.ntmps=n) (rs:List ResultVar) (hr:fn.results=rs.toArray) (hna:args.length<=n)
  (h:(∀d ∈ args,Wf d.1 d.2)->AC P T n code (ZN T rs e t l) ⟨iE 0 args,[]⟩):WY P f args e t l:=by
 subst hn
 have h':(∀d ∈ args,Wf d.1 d.2)->AC P T fn.ntmps code (fun e' σ=>match e' with
   | .normal|.ret=>Am T fn.results.toList e t l σ
   | _=>False) ⟨iE 0 args,[]⟩:=fun hwf=>by
  have:=h hwf
  have e:(ZN T rs e t l)=fun e' σ=>match e' with
    | .normal|.ret=>Am T fn.results.toList e t l σ
    | _=>False:=by
   have hrl:fn.results.toList=rs:=by rw[hr]
   rw[hrl]; funext e' σ; cases e'<;>rfl
  rw[e] at this
  exact this
 have:=KB (VQ:=fun b S w v=>∃fps:List (List Nat),v.oneCell'=true/\bh t.rp b w e v l fps/\∀b' ∈ fps.flatten,(S b'\/b<=b')/\v.ownBlock ≠ some b') hT hmix hf hname hb hna (fun c σ Γ a w hs hx hq=>YN (P:=P) hT hs hx hq) h'
 refine⟨this.1,fun w vs S hg ha=>(this.2 w vs S hg ha).mono ?_⟩
 rintro e w' ⟨hb,v,he,fps,q1,q2,q3⟩
 exact⟨hb,v,fps,he,q1,q2,q3⟩
def adm (T:TypeId->Option Ty) (rs:List ResultVar) (t:Ty) (x:t.den) (σ:St):Prop :=
 match rs with
 | [r]=>match oM T σ r with
  | some (.ptr k 0)=>match look σ.mem k with
   | some (.box cs)=>Is (look σ.mem) t x cs
   | _=>False
  | _=>False
 | _=>False
attribute [go_sem] adm
theorem DA {w:World} {S:Nat->Prop}:∀{vs:List Value} {ds:List aL},aA (fun v d=>∃fp,bV w v d fp/\∀b ∈ fp,S b) vs ds->∀d ∈ ds,Wf d.1 d.2
 | _,[],_,d,hd=>by cases hd
 | v :: vs,d :: ds,⟨⟨fp,⟨cs,_,hr⟩,_⟩,h2⟩,d',hd'=>by
  rcases mem_cons.1 hd' with rfl|hd'
  ·exact nA hr
  ·exact DA h2 d' hd'
 | [],_ :: _,h,_,_=>h.elim
theorem args_at {w:World} {S:Nat->Prop} {e:aL}:∀{vs:List Value} {ds:List aL} {d:Nat},aA (fun v d=>∃fp,bV w v d fp/\∀b ∈ fp,S b) vs ds->ds[d]? = some e->∃u,vs[d]? = some u/\∃fp,bV w u e fp/\∀b ∈ fp,S b
 | _,[],d,_,h=>by simp at h
 | [],_ :: _,_,hA,_=>hA.elim
 | v :: vs,d0 :: ds,0,hA,h=>by simp at h; subst h; exact⟨v,rfl,hA.1⟩
 | v :: vs,d0 :: ds,d+1,hA,h=>by simpa using args_at hA.2 (by simpa using h)
def KRC (T:TypeId->Option Ty) (rs:List ResultVar) (own:Bool) (d:aL) (B:ay) (ex:Exit) (σ:St):Prop :=
 match ex with
 | .normal|.ret=>l9 T σ own rs [d]/\look σ.mem 0=some B
 | _=>False
@[go_sem] theorem aeh {rs:List ResultVar} {own:Bool} {d:aL} {B:ay} {σ:St}:KRC T rs own d B .ret σ=(l9 T σ own rs [d]/\look σ.mem 0=some B):=(rfl)
theorem ji (hT:bD P T) (hmix:P.follows .mixedOrders=true) {f:FuncId} {fn:Func} {code:Code} {t:Ty} {l:List t.den} {zs zs':List Value} {args:List aL} {own:Bool} {d:aL} (hf:P.funcs[f]? = some fn) (hname:(fn.name == "runtime.NumGoroutine")=false) (hb:fn.body=some code) (n:Nat) (hn:fn.ntmps=n) (rs:List ResultVar) (hr:fn.results=rs.toArray) (hna:args.length < n)
  (hz:∀z ∈ zs',z.oneCell'=true/\jO z) (hzo:∀z ∈ zs,z.oneCell'=true)
  (h:∀b u0,Wf (.slice t) l->(∀z ∈ zs,jO z)->(∀d ∈ args,Wf d.1 d.2)->AC P T n code (KRC T rs own d (.bx (some b) (.fx u0 t l :: zs'.map fun z=>.sc z))) ⟨(0,.ptr 0 0) :: iE 1 args,[(0,.bx (some b) (.fx u0 t l :: zs.map fun z=>.sc z))]⟩):Xs P f t l zs zs' args own d:=by
 subst hn
 refine⟨fun vs w=>?_,hz,fun w b u0 e fp vs S hgw hgb hg hzs hrp hfp hSb hargs=>?_⟩
 ·have h1:fn.name ≠ "runtime.NumGoroutine":=by simpa using hname
  simp[callFunc,hf,h1,hb]
 ·refine calls_of_wp hf hb ?_
  have hlen:=hargs.len
  let c:Cx:=⟨w.heap.size,w,S,fn.ntmps,fun x=>x=b⟩
  have hmut:∀{Γ:aC} {x:Nat},S x->¬ iB [(0,ay.bx (some b) (.fx u0 t l :: zs.map fun z=>.sc z))] Γ x:=by
   rintro Γ x hx ⟨k,B,hk,hm⟩
   by_cases h0:k=0
   ·subst h0
    rw[aD] at hk; injection hk with hk; subst hk
    obtain rfl:x=b:=hm
    exact hSb hx
   ·rw[aG _ _ h0] at hk; cases hk
  have hs:aH c ⟨(0,.ptr 0 0) :: iE 1 args,[(0,.bx (some b) (.fx u0 t l :: zs.map fun z=>.sc z))]⟩ ⟨fun _=>0,fun _=>undef,fun _=>[]⟩ { tmps:=(.pointer (some ⟨b,0,none⟩) :: vs).toArray++Array.replicate (fn.ntmps - (Value.pointer (some ⟨b,0,none⟩) :: vs).toArray.size) undef,defers:=[] } w:=by
   refine⟨fun d v hd=>?_,fun k B hk=>?_,fun k k' B B' x hk hk' _ _=>?_,fun k k' B B' x hk hk' hne hx=>?_,.of (Below.refl _ _),le_refl _,rfl,by simp[c]; omega⟩
   ·by_cases hd0:d=0
    ·subst hd0
     rw[aD] at hd; injection hd with hd; subst hd
     refine⟨.pointer (some ⟨b,0,none⟩),?_,some b,_,aD ..,rfl⟩
     rw[Array.getElem?_append_left ah]; rfl
    ·rw[aG _ _ hd0] at hd
     obtain⟨h1,h2,e,h3,rfl⟩:=sa hd
     obtain⟨u,hu,fp,hdr,hS⟩:=args_at hargs h3
     refine⟨u,?_,b8 (jn hdr fun x hx=>⟨.inl (hS x hx),hmut (hS x hx)⟩)⟩
     have hdl:d < (Value.pointer (some ⟨b,0,none⟩) :: vs).length:=by simp; omega
     rw[Array.getElem?_append_left (by simpa using hdl)]
     have:d=(d - 1)+1:=J
     rw[this]
     simpa using hu
   ·by_cases h0:k=0
    ·subst h0
     rw[aD] at hk; injection hk with hk; subst hk
     refine⟨rfl,_,e,hg,⟨rfl,fp,hrp,fun x hx=>⟨.inl (hfp x hx),hmut (hfp x hx)⟩⟩,?_⟩
     have key:∀{ys:List Value},(∀z ∈ ys,jO z)->(∀z ∈ ys,z.oneCell'=true)->∀{M:Mm} {Γ:aC},aA (aQ c M Γ w) (ys.map fun z=>AV.sc z) ys:=fun h1 h2=>yN fun z hz=>⟨h2 z hz,h1 z hz⟩
     exact key hzs hzo
    ·rw[aG _ _ h0] at hk; cases hk
   ·by_cases h0:k=0<;>by_cases h1:k'=0
    ·omega
    ·rw[aG _ _ h1] at hk'; cases hk'
    ·rw[aG _ _ h0] at hk; cases hk
    ·rw[aG _ _ h0] at hk; cases hk
   ·by_cases h0:k=0
    ·subst h0
     rw[aD] at hk; injection hk with hk; subst hk; cases hx
    ·rw[aG _ _ h0] at hk; cases hk
  have hrl:fn.results.toList=rs:=by rw[hr]
  have hcg:Nonempty (CG P c):=⟨CG.of hgw fun g hg e=>hgb g hg e.symm⟩
  refine jX (c:=c) hT hmix (h b u0 (nA (t:=.slice t) hrp) hzs (DA hargs)) hs fun e σ' Γ' a' w' hq hs'=>?_
  have hq':∀(hx:l9 T σ' own rs [d]/\look σ'.mem 0=some (.bx (some b) (.fx u0 t l :: zs'.map fun z=>.sc z))),a'.defers=[]/\∃v,(results fn a'.tmps).run P w'=.ok v w'/\ep (fun x=>x=b) w.heap.size w w'/\(∃e,w'.heap[b]? = some (.cells (u0 :: zs').toArray e (0,0)))/\∃u,Ending.returned v=.returned u/\pb own w.heap.size S w' u [d]:=fun hx=>by
   obtain⟨v,h1,h2⟩:=BQ (P:=P) (fn:=fn) hT hs' (fun _ x e=>by have e:x=b:=e; subst e; exact hSb) (by rw[hrl]; exact hx.1)
   obtain⟨_,us,e,hge,hce⟩:=hs'.mm 0 _ hx.2
   refine⟨hs'.defs,v,h1,hs'.below,⟨e,?_⟩,v,rfl,h2⟩
   have hul:us.toList=u0 :: zs':=by
    cases hul:us.toList with
    | nil=>rw[hul] at hce; exact hce.elim
    | cons x xs =>
     rw[hul] at hce
     obtain⟨h3,_⟩:=zo hce.2
     rw[h3,show x=u0 from hce.1.1]
   rw[show (u0 :: zs').toArray=us by rw[<-hul]]
   exact hge
  cases e with
  | normal=>exact hq' hq
  | ret=>exact hq' hq
  | _=>exact hq.elim
def Jb (T:TypeId->Option Ty) (rs:List ResultVar) (cs:List AV) (σ:St):Prop :=
 match rs with
 | [r]=>match oM T σ r with
  | some (.ptr k 0)=>look σ.mem k=some (.bx none cs)
  | _=>False
 | _=>False
def KRN (T:TypeId->Option Ty) (rs:List ResultVar) (cs:List AV) (ex:Exit) (σ:St):Prop :=
 match ex with
 | .normal|.ret=>Jb T rs cs σ
 | _=>False
@[go_sem] theorem aei {rs:List ResultVar} {cs:List AV} {σ:St}:KRN T rs cs .ret σ=Jb T rs cs σ:=(rfl)
attribute [go_sem] Jb
theorem FK (hT:bD P T) (hmix:P.follows .mixedOrders=true) {f:FuncId} {fn:Func} {code:Code} {t:Ty} {l:List t.den} {zs:List Value} {args:List aL} (hf:P.funcs[f]? = some fn) (hname:(fn.name == "runtime.NumGoroutine")=false) (hb:fn.body=some code) (n:Nat) (hn:fn.ntmps=n) (rs:List ResultVar) (hr:fn.results=rs.toArray) (hna:args.length < n)
  (hz:∀z ∈ zs,z.oneCell'=true/\jO z)
  (h:∀u0,Wf (.slice t) l->(∀d ∈ args,Wf d.1 d.2)->AC P T n code (KRN T rs (.fx u0 t l :: zs.map fun z=>.sc z)) ⟨(0,.fx u0 t l) :: iE 1 args,[]⟩):Qz P f t l zs args:=by
 subst hn
 refine⟨fun vs w=>?_,hz,fun w u0 fp vs S hgw hrp hfp hargs=>?_⟩
 ·have h1:fn.name ≠ "runtime.NumGoroutine":=by simpa using hname
  simp[callFunc,hf,h1,hb]
 ·refine calls_of_wp hf hb ?_
  have hlen:=hargs.len
  let c:Cx:=⟨w.heap.size,w,S,fn.ntmps,fun _=>False⟩
  have hs:aH c ⟨(0,.fx u0 t l) :: iE 1 args,[]⟩ ⟨fun _=>0,fun _=>undef,fun _=>[]⟩ { tmps:=(u0 :: vs).toArray++Array.replicate (fn.ntmps - (u0 :: vs).toArray.size) undef,defers:=[] } w:=by
   refine⟨fun d v hd=>?_,fun k B hk=>(by cases hk),fun k k' B B' b hk=>(by cases hk),fun k k' B B' b hk=>(by cases hk),.of (Below.refl _ _),le_refl _,rfl,by simp[c]; omega⟩
   have hmut:∀{Γ:aC} {x:Nat},¬ iB [] Γ x:=by rintro Γ x ⟨k,B,hk,_⟩; cases hk
   by_cases hd0:d=0
   ·subst hd0
    rw[aD] at hd; injection hd with hd; subst hd
    refine⟨u0,?_,rfl,fp,hrp,fun x hx=>⟨.inl (hfp x hx),hmut⟩⟩
    rw[Array.getElem?_append_left ah]; rfl
   ·rw[aG _ _ hd0] at hd
    obtain⟨h1,h2,e,h3,rfl⟩:=sa hd
    obtain⟨u,hu,fp,hdr,hS⟩:=args_at hargs h3
    refine⟨u,?_,b8 (jn hdr fun x hx=>⟨.inl (hS x hx),hmut⟩)⟩
    have hdl:d < (u0 :: vs).length:=by simp; omega
    rw[Array.getElem?_append_left (by simpa using hdl)]
    have:d=(d - 1)+1:=J
    rw[this]
    simpa using hu
  have hrl:fn.results.toList=rs:=by rw[hr]
  have hcg:Nonempty (CG P c):=⟨CG.of hgw fun _ _ h=>h⟩
  refine jX (c:=c) hT hmix (h u0 (nA (t:=.slice t) hrp) (DA hargs)) hs fun e σ' Γ' a' w' hq hs'=>?_
  have hq':∀(hx:Jb T rs (.fx u0 t l :: zs.map fun z=>.sc z) σ'),a'.defers=[]/\∃v,(results fn a'.tmps).run P w'=.ok v w'/\Below w.heap.size w w'/\∃(b:Nat) (e:TypeId),Ending.returned v=.returned (.pointer (some ⟨b,0,none⟩))/\w.heap.size<=b/\w'.heap[b]? = some (.cells (u0 :: zs).toArray e (0,0)):=fun hx=>by
   unfold Jb at hx
   split at hx
   ·rename_i r
    split at hx
    ·rename_i k h1
     obtain⟨u,g1,xo,cs',hq,rfl⟩:=oA (P:=P) hT hs' h1 rfl
     rw[hx] at hq; cases hq
     obtain⟨hbase,us,e,hge,hce⟩:=hs'.mm k _ hx
     have hul:us.toList=u0 :: zs:=by
      cases hul:us.toList with
      | nil=>rw[hul] at hce; exact hce.elim
      | cons x xs =>
       rw[hul] at hce
       obtain⟨h3,_⟩:=zo hce.2
       rw[h3,show x=u0 from hce.1.1]
     refine⟨hs'.defs,_,?_,hs'.below.to,Γ'.loc k none,e,rfl,hbase,by rw[show (u0 :: zs).toArray=us by rw[<-hul]]; exact hge⟩
     rw[j5,hr,mapM_toArray,map_eq_pure_bind,Sem.run_bind,Sem.run_bind]
     simp only[mapM_cons,mapM_nil,Sem.run_bind,g1,Result.andThen_ok,Sem.run_pure]
     simp
    ·exact hx.elim
   ·exact hx.elim
  cases e with
  | normal=>exact hq' hq
  | ret=>exact hq' hq
  | _=>exact hq.elim
def avW (b:Nat) (d:aL):AV :=
 match d with
 | ⟨.dr (.ptr p),_⟩=>if p=b then .ptr 0 0 else .sc (.pointer (some ⟨p,0,none⟩))
 | d=>av d.1 d.2
def ZQ (b i:Nat):List aL->Tm
 | []=>[]
 | d :: ds=>(i,avW b d) :: ZQ b (i+1) ds
def abI (T:TypeId->Option Ty) (rs:List ResultVar) (t:Ty) (x:t.den) (σ:St):Prop :=
 match rs with
 | [r]=>match oM T σ r with
  | some (.ptr k 0)=>match look σ.mem k with
   | some (.bx none cs)=>Is (nW (look σ.mem)) t x (cs.take t.size)/\(match cs.drop t.size with
    | [.row j v]=>(match look σ.mem j with
     | some (.ob none v' (.map []))=>v'=v
     | _=>False)
    | _=>False)
   | _=>False
  | _=>False
 | _=>False
attribute [go_sem] abI avW ZQ
def vN (i:Nat):List AV->Tm
 | []=>[]
 | v :: vs=>(i,v) :: vN (i+1) vs
def FnB (P:Program) (f:FuncId) (vs:List AV) (M:Mm) (own:Bool) (res:List aL):Prop :=
 (∀vs w,(callFunc f vs).run P w=.ok (.enter f vs) w) ∧
 ∀(c:Cx) (Γ:aC) (a:Act) (w:World) (tm:Tm) (us:List Value),CG P c->(∀b,c.X b->¬ c.S b)->aH c ⟨tm,M⟩ Γ a w->aA (fun v u=>bq c M Γ w v u) vs us →
  Calls P f us.toArray w fun en w'=>ep c.X c.base c.w0 w'/\c.base<=w'.heap.size/\∃v,en=.returned v/\pb own c.base c.S w' v res
theorem EX:∀{vs:List AV} {i d:Nat} {v:AV},look (vN i vs) d=some v->i<=d/\d < i+vs.length/\vs[d - i]? = some v
 | [],_,_,_,h=>by cases h
 | e :: ds,i,d,v,h=>by
  simp only[vN,look] at h
  split at h
  ·rename_i hd; injection h with h; subst hd h; exact⟨le_refl _,by simp,by simp⟩
  ·obtain⟨h1,h2,h3⟩:=EX h
   refine⟨J,by simp; omega,?_⟩
   rw[show d - i=(d - (i+1))+1 from J]; exact h3
theorem xj (hT:bD P T) (hmix:P.follows .mixedOrders=true) {f:FuncId} {fn:Func} {code:Code} {vs:List AV} {M:Mm} {own:Bool} {res:List aL} (hf:P.funcs[f]? = some fn) (hname:(fn.name == "runtime.NumGoroutine")=false) (hb:fn.body=some code) (n:Nat) (hn:fn.ntmps=n) (rs:List ResultVar) (hr:fn.results=rs.toArray) (hna:vs.length<=n)
  (h:AC P T n code (KR T rs own res) ⟨vN 0 vs,M⟩):FnB P f vs M own res:=by
 subst hn
 refine⟨fun vs w=>?_,fun c Γ a w tm us hcg0 hxs hs hv=>?_⟩
 ·have h1:fn.name ≠ "runtime.NumGoroutine":=by simpa using hname
  simp[callFunc,hf,h1,hb]
 ·refine calls_of_wp hf hb ?_
  have hlen:=hv.len
  let c':Cx:=⟨c.base,c.w0,c.S,fn.ntmps,c.X⟩
  have hs':aH c' ⟨vN 0 vs,M⟩ Γ { tmps:=us.toArray++Array.replicate (fn.ntmps - us.toArray.size) undef,defers:=[] } w:=by
   refine⟨fun d v hd=>?_,fun k B hk=>hs.mm k B hk,fun k k' B B' b hk hk'=>hs.inj k k' B B' b hk hk',fun k k' B B' b hk hk'=>hs.pX k k' B B' b hk hk',hs.below,hs.hb,rfl,by simp[c']; omega⟩
   obtain⟨_,h2,h3⟩:=EX hd
   obtain⟨u,hu,hr⟩:=hv.get (i:=d) (by simpa using h3)
   refine⟨u,?_,b8 hr⟩
   have hdl:d < us.length:=J
   rw[Array.getElem?_append_left (by simpa using hdl)]
   simpa using hu
  have hrl:fn.results.toList=rs:=by rw[hr]
  have hcg:Nonempty (CG P c'):=⟨⟨hcg0.g,hcg0.ne⟩⟩
  refine jX (c:=c') hT hmix h hs' fun e σ' Γ' a' w' hq hs1=>?_
  have hq':∀(hx:l9 T σ' own rs res),a'.defers=[]/\∃v,(results fn a'.tmps).run P w'=.ok v w'/\ep c.X c.base c.w0 w'/\c.base<=w'.heap.size/\∃u,Ending.returned v=.returned u/\pb own c.base c.S w' u res:=fun hx=>by
   obtain⟨v,h1,h2⟩:=BQ (P:=P) (fn:=fn) hT hs1 (fun _=>hxs) (by rw[hrl]; exact hx)
   exact⟨hs1.defs,v,h1,hs1.below,hs1.hb,v,rfl,h2⟩
  cases e with
  | normal=>exact hq' hq
  | ret=>exact hq' hq
  | _=>exact hq.elim
def RA (T:TypeId->Option Ty) (rs:List ResultVar) (v:AV) (σ:St):Prop :=
 match rs with
 | []=>v=.dY []
 | [r]=>match oM T σ r with
  | some (.sc x)=>v=.sc x
  | _=>False
 | _=>False
def ZJ (T:TypeId->Option Ty) (rs:List ResultVar) (v:AV) (M':Mm) (ex:Exit) (σ:St):Prop :=
 match ex with
 | .normal|.ret=>RA T rs v σ/\Wk σ ⟨[],M'⟩
 | _=>False
@[go_sem] theorem aef {rs:List ResultVar} {v:AV} {M':Mm} {σ:St}:ZJ T rs v M' .normal σ=(RA T rs v σ/\Wk σ ⟨[],M'⟩):=(rfl)
@[go_sem] theorem aee {rs:List ResultVar} {v:AV} {M':Mm} {σ:St}:ZJ T rs v M' .ret σ=(RA T rs v σ/\Wk σ ⟨[],M'⟩):=(rfl)
attribute [go_sem] RA vN bw ts
theorem dq (hT:bD P T) (hmix:P.follows .mixedOrders=true) {f:FuncId} {fn:Func} {code:Code} {vs:List AV} {M M':Mm} {v:AV} (hf:P.funcs[f]? = some fn) (hname:(fn.name == "runtime.NumGoroutine")=false) (hb:fn.body=some code) (n:Nat) (hn:fn.ntmps=n) (rs:List ResultVar) (hr:fn.results=rs.toArray) (hna:vs.length<=fn.ntmps)
  (hv:v=.dY []\/∃x,v=.sc x) (h:∀ β,AC P T n code (ZJ T rs v (bw β M')) ⟨vN 0 vs,bw β M⟩):n0 P f vs M v M':=by
 subst hn
 refine⟨fun vs w=>?_,hv,fun c Γ a w us hcg0 hbase hw0 hs hvs=>?_⟩
 ·have h1:fn.name ≠ "runtime.NumGoroutine":=by simpa using hname
  simp[callFunc,hf,h1,hb]
 ·refine calls_of_wp hf hb ?_
  have hlen:=hvs.len
  let c':Cx:=⟨c.base,c.w0,c.S,fn.ntmps,c.X⟩
  have hs':aH c' ⟨vN 0 vs,bw Γ.β M⟩ Γ { tmps:=us.toArray++Array.replicate (fn.ntmps - us.toArray.size) undef,defers:=[] } w:=by
   refine⟨fun d v hd=>?_,fun k B hk=>hs.mm k B hk,fun k k' B B' b hk hk'=>hs.inj k k' B B' b hk hk',fun k k' B B' b hk hk'=>hs.pX k k' B B' b hk hk',hs.below,hs.hb,rfl,by simp[c']; omega⟩
   obtain⟨_,h2,h3⟩:=EX hd
   obtain⟨u,hu,hr⟩:=hvs.get (i:=d) (by simpa using h3)
   refine⟨u,?_,b8 hr⟩
   have hdl:d < us.length:=J
   rw[Array.getElem?_append_left (by simpa using hdl)]
   simpa using hu
  have hcg:Nonempty (CG P c'):=⟨⟨hcg0.g,hcg0.ne⟩⟩
  refine jX (c:=c') hT hmix (h Γ.β) hs' fun e σ' Γ' a' w' hq hs1=>?_
  have hq':∀(hx:RA T rs v σ'/\Wk σ' ⟨[],bw Γ.β M'⟩),a'.defers=[]/\∃u,(results fn a'.tmps).run P w'=.ok u w'/\∃(u':Value) (Γ':aC) (a':Act) (n:Nat),Ending.returned u=.returned u'/\aH ⟨c.base,c.w0,c.S,n,c.X⟩ ⟨[],bw Γ.β M'⟩ Γ' a' w'/\aR c (bw Γ.β M') Γ' w' v u':=by
   rintro⟨h1,h2⟩
   obtain⟨Γ2,hs2⟩:=Df hs1 h2
   refine⟨hs1.defs,?_⟩
   unfold RA at h1
   split at h1
   ·subst h1
    refine⟨.tuple #[],?_,_,Γ2,a',fn.ntmps,rfl,hs2,[],rfl,trivial⟩
    rw[j5,hr,mapM_toArray,map_eq_pure_bind,Sem.run_bind,Sem.run_bind]
    simp
   ·rename_i r
    split at h1
    ·rename_i x hx
     subst h1
     obtain⟨u,g1,g2⟩:=oA (P:=P) hT hs1 hx rfl
     refine⟨u,?_,_,Γ2,a',fn.ntmps,rfl,hs2,g2⟩
     rw[j5,hr,mapM_toArray,map_eq_pure_bind,Sem.run_bind,Sem.run_bind]
     simp only[mapM_cons,mapM_nil,Sem.run_bind,g1,Result.andThen_ok,Sem.run_pure]
     simp
    ·exact h1.elim
   ·exact h1.elim
  cases e with
  | normal=>exact hq' hq
  | ret=>exact hq' hq
  | _=>exact hq.elim
def TW (P:Program) (n:Nat) (x:Code) (Q:Exit->St->Prop) (σ:St):Prop :=
 ∀(c:Cx) (Γ:aC) (a:Act) (w:World) (Q':Exit->Act->World->Prop),CG P c->(∀b,c.X b->¬ c.S b)->c.n=n->aH c σ Γ a w->(∀e σ' Γ' a' w',Q e σ'->aH c σ' Γ' a' w'->Q' e a' w')->x.wp P Q' a w
theorem TW.seq (hT:bD P T) (hmix:P.follows .mixedOrders=true) {n:Nat} {x y:Code} {Q:Exit->St->Prop} {σ:St} (h:AC P T n x (pj (fun σ'=>TW P n y Q σ') Q) σ):TW P n (.seq x y) Q σ :=
 fun c Γ a w Q' hcg0 hxs hn hs hQ=>by
  have hcg:Nonempty (CG P c):=⟨hcg0⟩
  refine wp_seq (jX hT hmix (show AC P T c.n x _ σ by rw[hn]; exact h) hs fun e σ' Γ' a' w' hq hs'=>?_)
  cases e with
  | normal=>exact hq c Γ' a' w' Q' hcg0 hxs hn hs' hQ
  | _=>exact hQ _ _ _ _ _ hq hs'
theorem TW.then (hT:bD P T) (hmix:P.follows .mixedOrders=true) {n:Nat} {x y:Code} {Q:Exit->St->Prop} {σ:St} (h:TW P n x (pj (fun σ'=>AC P T n y Q σ') Q) σ):TW P n (.seq x y) Q σ :=
 fun c Γ a w Q' hcg0 hxs hn hs hQ=>by
  have hcg:Nonempty (CG P c):=⟨hcg0⟩
  refine wp_seq (h c Γ a w _ hcg0 hxs hn hs fun e σ' Γ' a' w' hq hs'=>?_)
  cases e with
  | normal=>exact jX hT hmix (show AC P T c.n y Q σ' by rw[hn]; exact hq) hs' hQ
  | _=>exact hQ _ _ _ _ _ hq hs'
theorem Ks {c:Cx} [Nonempty (CG P c)] {ops:List Oper} {Q:Exit->Act->World->Prop} {post:List Oper}:∀{os:List Oper} {es:List bb} {σ:St} {Γ:aC} {a:Act} {w:World},qs P c ops σ os es->aH c σ Γ a w->(∀ Γ' a' w',aH c (vB σ (os.zip es)) Γ' a' w'->wpList P ops.toArray Q post a' w')->wpList P ops.toArray Q (os++post) a w
 | [],_,σ,Γ,a,w,.nil _,hs,hQ=>hQ Γ a w hs
 | o :: os,e :: es,σ,Γ,a,w,.cons h1 h2,hs,hQ=>by
  refine wpList_step fun K hK=>?_
  exact h1.step hs (fun _ _=>rfl) (fun _ _ _ _ _=>rfl) (fun _ _=>rfl) fun Γ' a' w' hs'=>hK _ _ (Ks h2 hs' hQ)
def Jx (own:Bool) (d:aL):AV:=if own then jI 0 d else av d.1 d.2
def C5 (own:Bool) (d:aL):Mm:=if own then (aN 0 d.1 d.2).2 else []
def abH (P:Program) (T:TypeId->Option Ty) (n:Nat) (ops:List Oper) (f:FuncId) (xs:List Operand) (d:Nat) (post:List Oper) (own:Bool) (r:aL) (Q:Exit->St->Prop) (σ:St):Prop :=
 ∃ τ vs,Wk σ τ/\ia (look τ.tmps) xs=some vs/\vs.all AV.ok=true/\FnB P f vs τ.mem own [r]/\d < n/\AO P T n ops post ⟨[(d,Jx own r)],C5 own r⟩ [] (fun σ' _=>Q .normal σ')
theorem TW.tail (hT:bD P T) {n id:Nat} {l:List Oper} (i:Nat) {d:Nat} {f:FuncId} {xs:Array Operand} {tys:Array TypeId} {ty:TypeId} {ps:String} {af:Array Edge} {post:List Oper} {own:Bool} {r:aL} {Q:Exit->St->Prop} {σ:St}
  (hl:l.drop i=⟨some d,.call { callee:=.value (.func f),args:=xs,argTypes:=tys },ty,ps,af,none⟩ :: post)
  (h:AO P T n l (l.take i) σ [] (fun σ1 _=>abH P T n l f xs.toList d post own r Q σ1)):TW P n (.region id l.toArray false) Q σ:=fun c Γ a w Q' hcg0 hxs hn hs hQ=>by
 have hcg:Nonempty (CG P c):=⟨hcg0⟩
 subst hn
 obtain⟨es,σ',h1,h3,h4⟩:=mQ hT h gh.DY
 refine wp_region_lit ?_
 have hsp:l=l.take i++l.drop i:=(List.take_append_drop i l).symm
 rw[show wpList P l.toArray Q' l a w=wpList P l.toArray Q' (l.take i++l.drop i) a w by rw[<-hsp]]
 refine Ks h1 hs fun Γ1 a1 w1 hs1=>?_
 have hs1:=hs1.same h4
 obtain⟨τ,vs,hwk,hev,hok,hfn,hd,hpost⟩:=h3
 obtain⟨Γ2,hs2⟩:=Df hs1 hwk
 rw[hl]
 refine wpList_step fun K hK=>?_
 rw[if_pos (by simp[Region.wanted])]
 have hvs:=mN hs2 (xs:=xs.toList) (fun x _ t e=>rfl) hev hok
 have hvs':aA (fun v u=>bq c τ.mem Γ2 w1 v u) vs (xs.toList.map a1.eval):=by
  have:∀{vs:List AV} {ys:List Operand},aA (fun v x=>bq c τ.mem Γ2 w1 v (a1.eval x)) vs ys->aA (fun v u=>bq c τ.mem Γ2 w1 v u) vs (ys.map a1.eval):=by
   intro vs ys
   induction vs generalizing ys with
   | nil=>intro h; cases ys with|nil=>trivial|cons=>exact h.elim
   | cons v vs ih=>intro h; cases ys with
    | nil=>exact h.elim
    | cons y ys=>exact⟨h.1,ih h.2⟩
  exact this hvs
 have hrun:(execOp a1.eval ⟨some d,.call { callee:=.value (.func f),args:=xs,argTypes:=tys },ty,ps,af,none⟩).run P w1=.ok (.enter f (xs.map a1.eval)) w1:=by
  have h0:=hfn.1 (xs.map a1.eval) w1
  have e1:a1.eval (.func f)=.func (.func f) #[] #[]:=rfl
  simp[execOp,resolve,e1,Deferred.ofValue,invoke,h0]
 unfold Oper.wp
 rw[hrun,Oper.upon_enter]
 have hma:xs.map a1.eval=(xs.toList.map a1.eval).toArray:=Array.toList_inj.1 (by rw[toList_map])
 rw[hma]
 refine (hfn.2 c Γ2 a1 w1 τ.tmps _ hcg0 hxs hs2 hvs').mono ?_
 rintro e w' ⟨hb,hbs,u,rfl,fp,hdr,hown,hfp⟩
 have h0:aH c ⟨[],[]⟩ ⟨fun _=>0,fun _=>undef,fun _=>[]⟩ a1 w' :=
  ⟨fun d v hd=>(by cases hd),fun k B hk=>(by cases hk),fun k k' B B' b hk=>(by cases hk),fun k k' B B' b hk=>(by cases hk),hb,hbs,hs1.defs,hs1.sz⟩
 have hfin:∃ Γ3,aH c ⟨[(d,Jx own r)],C5 own r⟩ Γ3 (a1.put (some d) u) w':=by
  cases own with
  | true =>
   have ho:=hown rfl
   obtain⟨cs,hpk,hrp⟩:=hdr
   obtain⟨Γ',s1,r1,_,_,_⟩:=h0.aN (k:=0) hrp (.of ho) (fun b hbb=>⟨.inr (ho.2 b hbb).1,fun⟨k,B,hB,_⟩=>by cases hB⟩) (fun b hbb j B hj=>by cases hj) (fun p hp=>rfl)
   refine⟨Γ',?_⟩
   have hv:aR c ((aN 0 r.1 r.2).2++[]) Γ' w' (jI 0 r) u:=by
    unfold jI
    rcases hpk with ⟨hag,rfl⟩|⟨hag,rfl⟩
    ·rw[hag]; exact⟨cs,rfl,r1⟩
    ·rw[hag]
     obtain⟨v,hv1⟩:=oJ (k:=0) (x:=r.2) hag
     rw[hv1] at r1 ⊢
     exact mK r1.1
   have:=s1.put (d:=some d) hv (fun x hx=>by injection hx with hx; subst hx; exact hd)
   simpa [Jx,C5,St.put] using this
  | false =>
   refine⟨⟨fun _=>0,fun _=>undef,fun _=>[]⟩,?_⟩
   have hv:aR c [] ⟨fun _=>0,fun _=>undef,fun _=>[]⟩ w' (av r.1 r.2) u:=b8 (jn hdr fun b hbb=>⟨hfp b hbb,fun⟨k,B,hB,_⟩=>by cases hB⟩)
   have:=h0.put (d:=some d) hv (fun x hx=>by injection hx with hx; subst hx; exact hd)
   simpa [Jx,C5,St.put] using this
 obtain⟨Γ3,hs3⟩:=hfin
 obtain⟨es',σ'',g1,g3,g4⟩:=mQ hT hpost gh.DY
 exact hK _ _ (xO g1 hs3 fun Γ' a' w' hs'=>hQ _ _ _ _ _ g3 (hs'.same g4))
theorem Zg (hT:bD P T) {f:FuncId} {fn:Func} {code:Code} {args:List aL} {own:Bool} {res:List aL} (hf:P.funcs[f]? = some fn) (hname:(fn.name == "runtime.NumGoroutine")=false) (hb:fn.body=some code) (n:Nat) (hnt:fn.ntmps=n) (rs:List ResultVar) (hr:fn.results=rs.toArray) (hn':args.length<=n)
  (h:(∀d ∈ args,Wf d.1 d.2)->TW P n code (KR T rs own res) ⟨iE 0 args,[]⟩):Fn P f args own res:=by
 subst hnt
 have hn:=hn'
 have hrl:fn.results.toList=rs:=by rw[hr]
 refine⟨fun vs w=>?_,fun w vs S hgw hargs=>?_⟩
 ·have h1:fn.name ≠ "runtime.NumGoroutine":=by simpa using hname
  simp[callFunc,hf,h1,hb]
 ·refine calls_of_wp hf hb ?_
  have hwf:∀d ∈ args,Wf d.1 d.2:=by
   clear h hn
   revert hargs
   generalize args=ds
   intro hargs
   induction ds generalizing vs with
   | nil=>intro d hd; cases hd
   | cons d ds ih =>
    cases vs with
    | nil=>exact hargs.elim
    | cons v vs =>
     obtain⟨⟨fp,⟨cs,_,hr⟩,_⟩,h2⟩:=hargs
     intro d' hd'
     rcases mem_cons.1 hd' with rfl|hd'
     ·exact nA hr
     ·exact ih vs h2 d' hd'
  have hlen:=hargs.len
  let c:Cx:=⟨w.heap.size,w,S,fn.ntmps,fun _=>False⟩
  have hlt:∀{d:aL} {v:Value} {fp:List Nat},bV w v d fp->∀b ∈ fp,b < w.heap.size:=fun⟨cs,_,hr⟩=>(Ty.rp _).lt hr
  have hs:aH c ⟨iE 0 args,[]⟩ ⟨fun _=>0,fun _=>undef,fun _=>[]⟩ { tmps:=vs.toArray++Array.replicate (fn.ntmps - vs.toArray.size) undef,defers:=[] } w:=by
   refine⟨fun d v hd=>?_,fun k B hk=>(by cases hk),fun k k' B B' b hk=>(by cases hk),fun k k' B B' b hk=>(by cases hk),.of (Below.refl _ _),le_refl _,rfl,by simp[c]; omega⟩
   obtain⟨_,h2,e,h3,rfl⟩:=sa hd
   have hdl:d < vs.length:=J
   have hx:∃u,vs[d]? = some u/\∃fp,bV w u e fp/\∀b ∈ fp,S b:=by
    have hh:∀{ds:List aL} {vs:List Value} {d:Nat},aA (fun v d=>∃fp,bV w v d fp/\∀b ∈ fp,S b) vs ds->ds[d]? = some e->∃u,vs[d]? = some u/\∃fp,bV w u e fp/\∀b ∈ fp,S b:=by
     intro ds
     induction ds with
     | nil=>intro vs d _ h; simp at h
     | cons d0 ds ih =>
      intro vs d hA h
      cases vs with
      | nil=>exact hA.elim
      | cons v vs =>
       cases d with
       | zero=>simp at h; subst h; exact⟨v,rfl,hA.1⟩
       | succ d=>simpa using ih hA.2 (by simpa using h)
    exact hh hargs (by simpa using h3)
   obtain⟨u,hu,fp,hdr,hS⟩:=hx
   refine⟨u,?_,b8 (jn hdr fun b hb=>⟨.inl (hS b hb),fun⟨k,B,hk,_⟩=>by cases hk⟩)⟩
   rw[Array.getElem?_append_left (by simpa using hdl)]
   simpa using hu
  refine (h hwf) c _ _ _ _ (CG.of hgw fun _ _ h=>h) (fun _ h=>h.elim) rfl hs fun e σ' Γ' a' w' hq hs'=>?_
  have hq':∀(hx:l9 T σ' own rs res),a'.defers=[]/\∃v,(results fn a'.tmps).run P w'=.ok v w'/\Below w.heap.size w w'/\∃u,Ending.returned v=.returned u/\pb own w.heap.size S w' u res:=fun hx=>by
   obtain⟨v,h1,h2⟩:=BQ (P:=P) (fn:=fn) hT hs' (fun _ _ h=>h.elim) (by rw[hrl]; exact hx)
   exact⟨hs'.defs,v,h1,hs'.below.to,v,rfl,h2⟩
  cases e with
  | normal=>exact hq' hq
  | ret=>exact hq' hq
  | _=>exact hq.elim
end
theorem A1 (n:Int) (l:List Int) (hl:l.length<=1000000000) (hok:kD n l):xt prog 85 [⟨.int,n⟩,⟨aq,l⟩] 40 au (gU n l n.toNat):=by
 have h1:¬ n < 1:=by have:=hok.1; omega
 have h2:=hok.2.1
 have h3:l.any (fun x=>!decide (1<=x/\x<=1000))=false:=by
  rw[any_eq_false]
  intro x hx
  have:=hok.2.2 x hx
  simp[this.1,this.2]
 refine pz bK bA func85 rfl rfl _ ntmps85 _ results85 ah fun hwf=>?_
 have hll:l.length<=9223372036854775807:=(hwf ⟨aq,l⟩ ah).1
 have hI:bU n:=hwf ⟨.int,n⟩ ah
 have hI2:=hI.2
 have hi:bU (n - 1):=by constructor<;>omega
 refine fy h1 h2 ?_
 refine cw (gm _ _ sT l) ?_
 refine Nz ?_
 refine Uz h3 ?_
 refine aF.intro _ _ _ (fun i:Nat=>⟨[(0,.sc (.int .i64 n)),(1,.sl .int l),(5,.row 0 0),(22,.sc (.int .i64 n)),(23,.sc (.int .i64 i))],[(0,.row 40 au 0 true (gU n l i))]⟩) (fun i=>(i:Int)<=n) (fun i=>(n - i).toNat) 0 ?_ J ?_
 ·refine Wk.mk [] ?_
  refine Nz ?_
  try (and_intros<;>first|rfl|omega|exact⟨_,rfl⟩)
  all_goals (exact⟨rfl,rfl⟩)
 ·intro i hin
  have hk:=zp hok i
  have hsq:=G4 hk
  refine Nz ?_
  refine ao ?_ ?_<;>intro hA
  ·have hpath:(0 < (i:Int)/\(i:Int) < n - 1/\b9 n l i=min (ni l ((i:Int) - 1).toNat) (ni l i))\/(¬ 0 < (i:Int)/\b9 n l i=0)\/(0 < (i:Int)/\¬ (i:Int) < n - 1/\b9 n l i=0):=by
    unfold b9
    by_cases g1:0 < (i:Int)
    ·by_cases g2:(i:Int) < n - 1
     ·exact .inl ⟨g1,g2,if_pos ⟨g1,g2⟩⟩
     ·exact .inr (.inr ⟨g1,g2,if_neg fun h=>g2 h.2⟩)
    ·exact .inr (.inl ⟨g1,if_neg fun h=>g1 h.1⟩)
   rcases hpath with ⟨hB,hC,hlim⟩|⟨hB,hlim⟩|⟨hB,hC,hlim⟩
   ·refine Tz hA ?_
    refine fy hB hC ?_
    rw[<-hlim]
    refine Bz (dP (b9 n l i * b9 n l i)) ?_
    try simp (maxSteps:=9^9) only[go_sem,ix]
    repeat refine AI ?_
    refine az.mk (i+1) ?_ J J
    refine Wk.mk [] ?_
    refine Nz ?_
    try (and_intros<;>first|rfl|omega|exact⟨_,rfl⟩)
    all_goals (rw[nk]; exact⟨J,rfl⟩)
   ·refine Tz hA ?_
    refine Tz hB ?_
    refine cw (dP (0 * 0)) ?_
    refine Nz ?_
    try simp (maxSteps:=9^9) only[go_sem,ix]
    repeat refine AI ?_
    refine az.mk (i+1) ?_ J J
    refine Wk.mk [] ?_
    refine Nz ?_
    try (and_intros<;>first|rfl|omega|exact⟨_,rfl⟩)
    all_goals (rw[nk,hlim]; exact⟨J,rfl⟩)
   ·refine Tz hA ?_
    refine fy hB hC ?_
    refine cw (dP (0 * 0)) ?_
    refine Nz ?_
    try simp (maxSteps:=9^9) only[go_sem,ix]
    repeat refine AI ?_
    refine az.mk (i+1) ?_ J J
    refine Wk.mk [] ?_
    refine Nz ?_
    try (and_intros<;>first|rfl|omega|exact⟨_,rfl⟩)
    all_goals (rw[nk,hlim]; exact⟨J,rfl⟩)
  ·refine Nz ?_
   rw[show n.toNat=i from J]
   try exact⟨_,_,rfl,rfl⟩
attribute [go_sem] vN
def gn (a:Int) (p q:DP):Option Rat:=eT (some ((2 * a:Int):Rat)) (wz p q)
theorem H5 (a:Int) (p q:DP):aY (gn a p q):=iH _ _
theorem Q8 {a:Int} (h:1<=a/\a<=1000):aY (some ((2 * a:Int):Rat)):=by
 intro q hq; injection hq with hq; subst hq
 exact⟨le_trans (db (n:=(2 * a).natAbs) J) ae,le_trans (db (n:=1) ae) ae⟩
def vl (w:List DR) (i:Nat):Option Rat:=aw (nth (t:=au) w i)
def IQ (w:List DR) (i j:Nat) (g:Option Rat):List DR:=w.set i (oD (bP (vl w i) (bX (vl w j) g)))
theorem EO (w:List DR) (i j:Nat) (g:Option Rat):(IQ w i j g).length=w.length:=List.length_set
theorem ny (w:List DR) (i:Nat):aY (vl w i):=aI _
theorem YH (w:List DR) (i j:Nat) (g:Option Rat):aY (bP (vl w i) (bX (vl w j) g)):=lp (ny _ _) (fS _ _)
def CN (w:List DR):Prop:=∀i,i < w.length->oD (vl w i)=nth (t:=au) w i
theorem yO {w:List DR} {i k:Nat} {x:DR} (hi:i < w.length):nth (t:=au) (w.set i x) k=if k=i then x else nth (t:=au) w k:=by
 unfold nth
 rw[List.getD_eq_getElem?_getD,List.getD_eq_getElem?_getD,List.getElem?_set]
 by_cases h:i=k
 ·subst h; simp[hi]
 ·rw[if_neg h,if_neg (fun e=>h e.symm)]
theorem xv {w:List DR} {i j k:Nat} {g:Option Rat} (hi:i < w.length):vl (IQ w i j g) k=if k=i then bP (vl w i) (bX (vl w j) g) else vl w k:=by
 unfold vl IQ
 rw[yO hi]
 split
 ·rw[gr (YH w i j g)]; rfl
 ·rfl
theorem R4 {w:List DR} (h:CN w) {i j:Nat} {g:Option Rat} (hi:i < w.length):CN (IQ w i j g):=fun k hk=>by
 rw[EO] at hk
 rw[xv hi]
 unfold IQ
 rw[yO hi]
 split
 ·rfl
 ·exact h k hk
abbrev pn (l:List DP) (i:Nat):DP:=nth (t:=ax) l i
def r9 (l:List DP) (a:Int):Nat->List DR->List DR
 | 0,w=>w
 | k+1,w=>IQ (r9 l a k w) (k+1) k (gn a (pn l k) (pn l (k+1)))
def uc (l:List DP) (a:Int) (n:Nat):Nat->List DR->List DR
 | 0,w=>w
 | k+1,w=>IQ (uc l a n k w) (n - 2 - k) (n - 2 - k+1) (gn a (pn l (n - 2 - k)) (pn l (n - 2 - k+1)))
theorem kq (l:List DP) (a:Int) (k:Nat) (w:List DR):(r9 l a k w).length=w.length:=by
 induction k with
 | zero=>rfl
 | succ k ih=>rw[r9,EO,ih]
theorem oS (l:List DP) (a:Int) (n k:Nat) (w:List DR):(uc l a n k w).length=w.length:=by
 induction k with
 | zero=>rfl
 | succ k ih=>rw[uc,EO,ih]
theorem Xo {l:List DP} {a:Int} {w:List DR} (h:CN w) (k:Nat) (hk:k < w.length):CN (r9 l a k w):=by
 induction k with
 | zero=>exact h
 | succ k ih=>exact R4 (ih J) (by rw[kq]; omega)
theorem VW {l:List DP} {a:Int} {n:Nat} {w:List DR} (h:CN w) (hn:w.length=n) (k:Nat) (hk:k < n):CN (uc l a n k w):=by
 induction k with
 | zero=>exact h
 | succ k ih=>exact R4 (ih J) (by rw[oS]; omega)
def gk (l:List DP) (a:Int) (w:List DR):List DR:=uc l a w.length (w.length - 1) (r9 l a (w.length - 1) w)
theorem KV (y:Option Rat):bP none y=none:=rfl
theorem Lg (x:Option Rat):bP x none=none:=by cases x<;>rfl
theorem Ze {l:List DP} {a:Int} {w:List DR} {i:Nat} (hg:gn a (pn l i) (pn l (i+1))=none) (k:Nat) (hk:i < k) (hkw:k < w.length):vl (r9 l a k w) (i+1)=none:=by
 induction k with
 | zero=>omega
 | succ k ih =>
  rw[r9,xv (by rw[kq]; omega)]
  by_cases h:i=k
  ·subst h
   rw[if_pos rfl,hg,zJ,Lg]
  ·rw[if_neg J]
   exact ih J J
theorem Y9 {l:List DP} {a:Int} {n:Nat} {w:List DR} {i:Nat} (hv:vl w i=none) (hn:w.length=n) (k:Nat) (hk:k < n):vl (uc l a n k w) i=none:=by
 induction k with
 | zero=>exact hv
 | succ k ih =>
  rw[uc,xv (by rw[oS]; omega)]
  split
  ·rename_i h
   rw[<-h,ih J,KV]
  ·exact ih J
def iK (w:List DR):Bool:=!(w.any fun r=>!br r)
theorem Qr {w:List DR} {i:Nat} (hi:i < w.length) (h:vl w i=none):iK w=false:=by
 unfold iK
 rw[Bool.not_eq_false',List.any_eq_true]
 refine⟨nth (t:=au) w i,by rw[aM hi]; exact getElem_mem hi,?_⟩
 have:br (nth (t:=au) w i)=false:=by unfold br; unfold vl at h; rw[h]; rfl
 rw[this]; rfl
theorem Vl {l:List DP} {a:Int} {w:List DR} {i:Nat} (hg:gn a (pn l i) (pn l (i+1))=none) (hi:i+1 < w.length):iK (gk l a w)=false:=by
 refine Qr (i:=i+1) (by unfold gk; rw[oS,kq]; omega) ?_
 exact Y9 (Ze hg _ J J) (kq ..) _ J
def pS (l:List DP) (a:Int) (w:List DR):List DR:=if (decide (1<=a/\a<=1000) && iK (gk l a w))=true then gk l a w else []
theorem YY {l:List DP} {a:Int} {w:List DR} (h:CN w) (hw:0 < w.length):CN (gk l a w):=VW (Xo h _ J) (kq ..) _ J
theorem aaf {n:Int} {l:List Int} (h:kD n l) (k:Nat):CN (gU n l k):=fun i hi=>by
 rw[ix] at hi
 have e:nth (t:=au) (gU n l k) i=fE (b9 n l i * b9 n l i):=by
  rw[aM (by rw[ix]; exact hi)]; simp[gU]
 have hk:=zp h i
 have hsq:=G4 hk
 have ho:aY (some (((b9 n l i * b9 n l i:Int)):Rat)):=by
  intro q hq; injection hq with hq; subst hq
  exact⟨le_trans (db (n:=(b9 n l i * b9 n l i).natAbs) J) ae,le_trans (db (n:=1) ae) ae⟩
 unfold vl
 rw[e,show fE (b9 n l i * b9 n l i)=oD (some ((b9 n l i * b9 n l i:Int):Rat)) from ij _,gr ho]
theorem LN (a:Int):fE (2 * a)=oD (some ((2 * a:Int):Rat)):=ij _
def qi (l:List DP) (a:Int) (k:Nat):List DR:=(List.range k).map fun i=>oD (gn a (pn l i) (pn l (i+1)))
theorem JW (l:List DP) (a:Int) (k:Nat):qi l a (k+1)=qi l a k++[oD (gn a (pn l k) (pn l (k+1)))]:=by simp[qi,List.range_succ]
theorem qS (l:List DP) (a:Int) (k:Nat):(qi l a k).length=k:=by simp[qi]
theorem ER (l:List DP) (a:Int) {k i:Nat} (h:i < k):nth (t:=au) (qi l a k) i=oD (gn a (pn l i) (pn l (i+1))):=by
 rw[aM (by rw[qS]; exact h)]; simp[qi]
theorem Jy (l:List DP) (a:Int) (ha:1<=a/\a<=1000) (h0:0 < l.length) (hl:l.length<=1000000000) (hg:∀i,i+1 < l.length->(gn a (pn l i) (pn l (i+1))).isSome=true) :
  Fn prog 92 [⟨.slice ax,l⟩,⟨.int,a⟩] false [⟨.slice au,qi l a (l.length - 1)⟩,⟨.bool,true⟩]:=by
 have c1:=dP (2 * a)
 rw[LN] at c1
 refine fe func92 ntmps92 results92 fun hwf=>?_
 refine Nz ?_
 refine aF.intro _ _ _ (fun i:Nat=>⟨[(0,.sl ax l),(1,.sc (.int .i64 a)),(6,.row 0 0),(7,.sc (.int .i64 ((i:Int)+1)))],[(0,.row 40 au 0 true (qi l a i))]⟩) (fun i=>i+1<=l.length) (fun i=>l.length - i) 0 ?_ J ?_
 ·refine Wk.mk [] ?_
  refine Nz ?_
  try (and_intros<;>first|rfl|omega|exact⟨_,rfl⟩)
  all_goals (first|exact⟨rfl,rfl⟩|rfl)
 ·rintro i hi
  refine Nz ?_
  refine ao ?_ ?_<;>intro hA
  ·have e1:((i:Int)+1 - 1).toNat=i:=J
   have e2:((i:Int)+1).toNat=i+1:=J
   have c2:Fn prog 83 [⟨ax,nth (t:=ax) l ((i:Int)+1 - 1).toNat⟩,⟨ax,nth (t:=ax) l ((i:Int)+1).toNat⟩] false [⟨au,oD (wz (pn l i) (pn l (i+1)))⟩]:=by
    rw[e1,e2]; exact wc _ _
   have c3:Fn prog 168 [⟨au,oD (some ((2 * a:Int):Rat))⟩,⟨au,oD (wz (pn l i) (pn l (i+1)))⟩] true [⟨au,oD (gn a (pn l i) (pn l (i+1)))⟩]:=fA _ _ (Q8 ha) (Rq _ _)
   have c4:=h9 (gn a (pn l i) (pn l (i+1)))
   rw[hg i J] at c4
   refine Sz ?_
   refine Cz c1 ?_
   refine cw c2 ?_
   refine Cz c3 ?_
   refine cw c4 ?_
   refine Nz ?_
   try simp (maxSteps:=9^9) only[go_sem,qS]
   repeat refine AI ?_
   refine az.mk (i+1) ?_ J J
   refine Wk.mk [] ?_
   refine Nz ?_
   try (and_intros<;>first|rfl|omega|exact⟨_,rfl⟩)
   all_goals (rw[JW]; exact⟨J,rfl⟩)
  ·rw[show l.length - 1=i from J]
   all_goals exact Fz
theorem Sc (l:List DP) (a:Int) (ha:1<=a/\a<=1000) (h0:0 < l.length) (hl:l.length<=1000000000) (hg:¬ ∀i,i+1 < l.length->(gn a (pn l i) (pn l (i+1))).isSome=true) :
  Fn prog 92 [⟨.slice ax,l⟩,⟨.int,a⟩] false [⟨.slice au,[]⟩,⟨.bool,false⟩]:=by
 have c1:=dP (2 * a)
 rw[LN] at c1
 refine fe func92 ntmps92 results92 fun hwf=>?_
 refine Nz ?_
 refine aF.intro _ _ _ (fun i:Nat=>⟨[(0,.sl ax l),(1,.sc (.int .i64 a)),(6,.row 0 0),(7,.sc (.int .i64 ((i:Int)+1)))],[(0,.row 40 au 0 true (qi l a i))]⟩) (fun i=>i+1<=l.length/\∀j,j < i->(gn a (pn l j) (pn l (j+1))).isSome=true) (fun i=>l.length - i) 0 ?_ ⟨J,fun j h=>absurd h (not_lt_zero _)⟩ ?_
 ·refine Wk.mk [] ?_
  refine Nz ?_
  try (and_intros<;>first|rfl|omega|exact⟨_,rfl⟩)
  all_goals (first|exact⟨rfl,rfl⟩|rfl)
 ·rintro i ⟨hi,hall⟩
  refine Nz ?_
  refine ao ?_ ?_<;>intro hA
  ·have e1:((i:Int)+1 - 1).toNat=i:=J
   have e2:((i:Int)+1).toNat=i+1:=J
   have c2:Fn prog 83 [⟨ax,nth (t:=ax) l ((i:Int)+1 - 1).toNat⟩,⟨ax,nth (t:=ax) l ((i:Int)+1).toNat⟩] false [⟨au,oD (wz (pn l i) (pn l (i+1)))⟩]:=by
    rw[e1,e2]; exact wc _ _
   have c3:Fn prog 168 [⟨au,oD (some ((2 * a:Int):Rat))⟩,⟨au,oD (wz (pn l i) (pn l (i+1)))⟩] true [⟨au,oD (gn a (pn l i) (pn l (i+1)))⟩]:=fA _ _ (Q8 ha) (Rq _ _)
   have c4:=h9 (gn a (pn l i) (pn l (i+1)))
   cases hs:(gn a (pn l i) (pn l (i+1))).isSome<;>rw[hs] at c4
   ·refine Sz ?_
    refine Cz c1 ?_
    refine cw c2 ?_
    refine Cz c3 ?_
    refine cw c4 ?_
    all_goals exact Fz
   ·refine Sz ?_
    refine Cz c1 ?_
    refine cw c2 ?_
    refine Cz c3 ?_
    refine cw c4 ?_
    refine Nz ?_
    try simp (maxSteps:=9^9) only[go_sem,qS]
    repeat refine AI ?_
    refine az.mk (i+1) ?_ ⟨J,fun j h=>?_⟩ J
    ·refine Wk.mk [] ?_
     refine Nz ?_
     try (and_intros<;>first|rfl|omega|exact⟨_,rfl⟩)
     all_goals (rw[JW]; exact⟨J,rfl⟩)
    ·by_cases h3:j < i
     ·exact hall j h3
     ·rw[show j=i from J]; exact hs
  ·exact absurd (fun j h=>hall j J) hg
theorem Oz (r:DR):Fn prog 95 [⟨au,r⟩] false [⟨.bool,decide ((0:Int) < r.2.length)⟩]:=by
 refine fe func95 ntmps95 results95 fun hwf=>?_
 try simp (maxSteps:=9^9) only[go_sem]
theorem Vi (r:DR):Fn prog 161 [⟨au,r⟩] false [⟨.bool,!decide ((0:Int) < r.2.length)⟩]:=by
 refine fe func161 ntmps161 results161 fun hwf=>?_
 refine Sz ?_
 refine cw (Oz r) ?_
 try simp (maxSteps:=9^9) only[go_sem]
theorem UO {x:Option Rat} (h:aY x):decide ((0:Int) < (oD x).2.length)=br (oD x):=by
 unfold br
 rw[gr h]
 cases x with
 | none=>rfl
 | some q =>
  have:0 < nl q.den:=Nat.pos_of_ne_zero fun e=>q.den_nz (dz.1 e)
  exact aj (by show (0:Int) < nl q.den; omega)
theorem Ul {w:List DR} (h:CN w):(w.any fun r=>!decide ((0:Int) < r.2.length))=!iK w:=by
 unfold iK
 rw[Bool.not_not]
 have:∀r ∈ w,(!decide ((0:Int) < r.2.length))=!br r:=fun r hr=>by
  obtain⟨i,hi,rfl⟩:=getElem_of_mem hr
  have e:=h i hi
  rw[aM hi] at e
  rw[<-e,UO (ny w i)]
 clear h
 induction w with
 | nil=>rfl
 | cons x l ih=>rw[List.any_cons,List.any_cons,this x mem_cons_self,ih fun r hr=>this r (mem_cons_of_mem _ hr)]
theorem T7 {w:List DR} (h:iK w=true):∀r ∈ w,br r=true:=fun r hr=>by
 unfold iK at h
 rw[not_eq_true',any_eq_false] at h
 simpa using h r hr
theorem Dw (ow:Bool) (l:List DP) (a:Int) (w:List DR) (hw:w.length=l.length) (h0:0 < l.length) (hl:l.length<=1000000000) (hc:CN w) :
  FnB prog 87 [.sl ax l,.row 0 0,.sc (.int .i64 a)] [(0,.row 40 au 0 ow w)] true [⟨.slice au,pS l a w⟩]:=by
 have d0:decide ((w.length:Int)=0)=false:=ak J
 have c1:=vY a
 by_cases ha:1<=a/\a<=1000
 rotate_left
 ·have e:pS l a w=[]:=by unfold pS; rw[ak ha]; rfl
  rw[ak ha] at c1
  rw[e]
  refine xj bK bA func87 rfl rfl _ ntmps87 _ results87 ah ?_
  refine Tz d0 ?_
  refine cw c1 ?_
  try simp (maxSteps:=9^9) only[go_sem]
 rw[aj ha] at c1
 by_cases hg:∀i,i+1 < l.length->(gn a (pn l i) (pn l (i+1))).isSome=true
 rotate_left
 ·have c2:=Sc l a ha h0 hl hg
  have e:pS l a w=[]:=by
   have:iK (gk l a w)=false:=by
    obtain⟨i,hi⟩:=Classical.not_forall.1 hg
    obtain⟨h1,h2⟩:=Classical.not_imp.1 hi
    refine Vl (i:=i) ?_ J
    cases hx:gn a (pn l i) (pn l (i+1)) with
    | none=>rfl
    | some q=>rw[hx] at h2; exact absurd rfl h2
   unfold pS; rw[this,Bool.and_false]; rfl
  rw[e]
  refine xj bK bA func87 rfl rfl _ ntmps87 _ results87 ah ?_
  refine Tz d0 ?_
  refine cw c1 ?_
  refine Sz ?_
  refine cw c2 ?_
  try simp (maxSteps:=9^9) only[go_sem]
 have c2:=Jy l a ha h0 hl hg
 have hcp:=YY (l:=l) (a:=a) hc J
 have hlp:(gk l a w).length=l.length:=by unfold gk; rw[oS,kq,hw]
 have c7:=nX _ _ Vi (gk l a w)
 rw[Ul hcp] at c7
 have hpr:pS l a w=if iK (gk l a w)=true then gk l a w else []:=by unfold pS; rw[aj ha,Bool.true_and]
 rw[hpr]
 refine xj bK bA func87 rfl rfl _ ntmps87 _ results87 ah ?_
 refine Tz d0 ?_
 refine cw c1 ?_
 refine Bz c2 ?_
 refine aF.intro _ _ _ (fun i:Nat=>⟨[(1,.row 0 0),(7,.sl au (qi l a (l.length - 1))),(9,.sc (.int .i64 ((i:Int)+1)))],[(0,.row 40 au 0 false (r9 l a i w))]⟩) (fun i=>i+1<=l.length) (fun i=>l.length - i) 0 ?_ J ?_
 ·exact WK
 ·rintro i hi
  have hWl:=kq l a i w
  have hWc:=Xo (l:=l) (a:=a) hc i J
  have e1:((i:Int)+1 - 1).toNat=i:=J
  have e2:((i:Int)+1).toNat=i+1:=J
  generalize hW:r9 l a i w=W at hWl hWc ⊢
  refine Uz hWl ?_
  refine ao ?_ ?_<;>intro hA
  ·have hst:r9 l a (i+1) w=W.set ((i:Int)+1).toNat (oD (bP (vl W (i+1)) (bX (vl W i) (gn a (pn l i) (pn l (i+1)))))):=by
    rw[e2,<-hW]; rfl
   have c5:Fn prog 82 [⟨au,nth (t:=au) W ((i:Int)+1 - 1).toNat⟩,⟨au,nth (t:=au) (qi l a (l.length - 1)) ((i:Int)+1 - 1).toNat⟩] true [⟨au,oD (bX (vl W i) (gn a (pn l i) (pn l (i+1))))⟩]:=by
    rw[e1,<-hWc i J,ER l a J]
    exact er _ _ (ny _ _) (H5 _ _ _)
   have c6:Fn prog 159 [⟨au,nth (t:=au) W ((i:Int)+1).toNat⟩,⟨au,oD (bX (vl W i) (gn a (pn l i) (pn l (i+1))))⟩] false [⟨au,oD (bP (vl W (i+1)) (bX (vl W i) (gn a (pn l i) (pn l (i+1)))))⟩]:=by
    rw[e2,<-hWc (i+1) J]
    exact kQ _ _ (ny _ _) (fS _ _)
   have hgl:=qS l a (l.length - 1)
   refine Cz c5 ?_
   refine cw c6 ?_
   refine Sz ?_
   refine az.mk (i+1) ?_ J J
   rw[hst]
   exact WK
  ·have hin:i=l.length - 1:=J
   have hWe:W=r9 l a (w.length - 1) w:=by rw[<-hW,hin,hw]
   refine Sz ?_
   refine Tz hWl ?_
   refine aF.intro _ _ _ (fun j:Nat=>⟨[(1,.row 0 0),(7,.sl au (qi l a (l.length - 1))),(10,.sc (.int .i64 ((w.length:Int) - 2 - j)))],[(0,.row 40 au 0 false (uc l a w.length j W))]⟩) (fun j=>j+1<=w.length) (fun j=>w.length - j) 0 ?_ J ?_
   ·exact WK
   ·rintro j hj
    have hVl:=oS l a w.length j W
    have hVc:=VW (l:=l) (a:=a) (n:=w.length) hWc hWl j J
    have hgl:=qS l a (l.length - 1)
    generalize hV:uc l a w.length j W=V at hVl hVc ⊢
    refine Nz ?_
    refine ao ?_ ?_<;>intro hB
    ·have e1:((w.length:Int) - 2 - j).toNat=w.length - 2 - j:=J
     have e2:((w.length:Int) - 2 - j+1).toNat=w.length - 2 - j+1:=J
     have hst:uc l a w.length (j+1) W=V.set ((w.length:Int) - 2 - j).toNat (oD (bP (vl V (w.length - 2 - j)) (bX (vl V (w.length - 2 - j+1)) (gn a (pn l (w.length - 2 - j)) (pn l (w.length - 2 - j+1)))))):=by
      rw[e1,<-hV]; rfl
     have c5:Fn prog 82 [⟨au,nth (t:=au) V ((w.length:Int) - 2 - j+1).toNat⟩,⟨au,nth (t:=au) (qi l a (l.length - 1)) ((w.length:Int) - 2 - j).toNat⟩] true [⟨au,oD (bX (vl V (w.length - 2 - j+1)) (gn a (pn l (w.length - 2 - j)) (pn l (w.length - 2 - j+1))))⟩]:=by
      rw[e1,e2,<-hVc (w.length - 2 - j+1) J,ER l a J]
      exact er _ _ (ny _ _) (H5 _ _ _)
     have c6:Fn prog 159 [⟨au,nth (t:=au) V ((w.length:Int) - 2 - j).toNat⟩,⟨au,oD (bX (vl V (w.length - 2 - j+1)) (gn a (pn l (w.length - 2 - j)) (pn l (w.length - 2 - j+1))))⟩] false [⟨au,oD (bP (vl V (w.length - 2 - j)) (bX (vl V (w.length - 2 - j+1)) (gn a (pn l (w.length - 2 - j)) (pn l (w.length - 2 - j+1)))))⟩]:=by
      rw[e1,<-hVc (w.length - 2 - j) J]
      exact kQ _ _ (ny _ _) (fS _ _)
     refine Cz c5 ?_
     refine cw c6 ?_
     refine Sz ?_
     refine az.mk (j+1) ?_ J J
     rw[hst]
     exact WK
    ·have hVe:V=gk l a w:=by unfold gk; rw[<-hV,<-hWe,show j=w.length - 1 from J]
     rw[hVe]
     cases hgd:iK (gk l a w)<;>rw[hgd] at c7
     ·rw[if_neg ae]
      refine Sz ?_
      refine cw c7 ?_
      try simp (maxSteps:=9^9) only[go_sem]
     ·rw[if_pos rfl]
      have hm:=T7 hgd
      have c8:=Pf (gk l a w) J (fun r hr=>by have:=DX (hm r hr); omega)
      refine Cz c7 ?_
      refine cw c8 ?_
      all_goals exact Fz
end DW

namespace DW
open Go.RowKit
theorem CH (l:List DP) (a:Int):Fn prog 87 [⟨.slice ax,l⟩,⟨.slice au,[]⟩,⟨.int,a⟩] true [⟨.slice au,[]⟩]:=by
 have d0:decide (((0:Nat):Int)=0)=true:=ae
 refine fe func87 ntmps87 results87 fun hwf=>?_
 try simp (maxSteps:=9^9) only[go_sem,d0]
theorem Ts (x y:DB):Fn prog 365 [⟨dM,x⟩,⟨dM,y⟩] false [⟨.bool,okB x && okB y⟩]:=by
 cases hx:okB x
 ·refine fe func365 ntmps365 results365 fun hwf=>?_
  refine Bz (dE x) ?_
  try simp (maxSteps:=9^9) only[go_sem,hx]
 ·refine fe func365 ntmps365 results365 fun hwf=>?_
  refine Bz (dE x) ?_
  refine Tz hx ?_
  refine cw (dE y) ?_
  try simp (maxSteps:=9^9) only[go_sem]
theorem O7 {n:Nat} (h:n < 1000000000):nl n<=1:=by
 have:=db (n:=n) h
 exact this
theorem vH {d:Int} (hd:0<=d):bE d=(false,aB d.toNat):=by
 show (decide (d < 0),aB d.natAbs)=_
 rw[ak J,show d.natAbs=d.toNat from J]
theorem Th {n d:Int} (hd:1<=d):_root_.mkRat n d.toNat=(n:Rat) / (d:Rat):=by
 rw[Rat.mkRat_eq_div]
 have:((d.toNat:Nat):Rat)=((d:Int):Rat):=by
  have h:((d.toNat:Nat):Int)=d:=J
  rw[<-h]; rfl
 rw[this]
theorem Oc (b:Bool):(!(b == false))=b:=by cases b<;>rfl
theorem yb (n d:Int) (hn:n.natAbs < 1000000000) (hd:1<=d/\d < 1000000000):Fn prog 299 [⟨.int,n⟩,⟨.int,d⟩] true [⟨au,oD (fZ ((n:Rat) / (d:Rat)))⟩]:=by
 have h1:=O7 hn
 have h2:=O7 (show d.toNat < 1000000000 from J)
 have hm:=pg n d.toNat J J J
 rw[Th hd.1] at hm
 have c1:=AE d
 rw[vH J] at c1
 have ok1:okB (bE n)=true:=uY J
 have ok2:okB (false,aB d.toNat)=true:=by rw[<-vH J]; exact uY (by rw[show d.natAbs=d.toNat from J]; omega)
 have ca:=Ts (bE n) (false,aB d.toNat)
 rw[ok1,ok2] at ca
 have hl:¬ ((nl d.toNat:Int)=0):=fun h=>by have:=dz.1 (show nl d.toNat=0 from J); omega
 have hM:Fn prog 336 [⟨dM,bE n⟩,⟨dM,(false,aB d.toNat)⟩] true [⟨au,oD (fZ ((n:Rat) / (d:Rat)))⟩]:=by
  have cb:=jY (s:=!(decide (n < 0) == false)) (n:=n.natAbs) (z:=n) (by rw[Oc]; exact rz n)
  refine fe func336 ntmps336 results336 fun hwf=>?_
  refine Bz ca ?_
  refine Tz hl ?_
  refine cw cb ?_
  refine Sz ?_
  refine cw hm ?_
  all_goals exact Fz
 refine fe func299 ntmps299 results299 fun hwf=>?_
 refine Cz (AE n) ?_
 refine cw c1 ?_
 refine Sz ?_
 refine cw hM ?_
 try simp (maxSteps:=9^9) only[go_sem]
theorem Se (n d:Int) (hn:n.natAbs < 1000000000) (hd:1<=d/\d < 1000000000):Fn prog 202 [⟨.int,n⟩,⟨.int,d⟩] true [⟨au,oD (fZ ((n:Rat) / (d:Rat)))⟩]:=by
 have h1:=O7 hn
 have h2:=O7 (show d.toNat < 1000000000 from J)
 have c1:=tC d
 rw[vH J] at c1
 have ok1:okB (bE n)=true:=uY J
 have ok2:okB (false,aB d.toNat)=true:=by rw[<-vH J]; exact uY (by rw[show d.natAbs=d.toNat from J]; omega)
 have o1:=eP (bE n)
 have o2:=eP (false,aB d.toNat)
 rw[ok1] at o1
 rw[ok2] at o2
 have hM:Fn prog 269 [⟨dM,bE n⟩,⟨dM,(false,aB d.toNat)⟩] true [⟨au,oD (fZ ((n:Rat) / (d:Rat)))⟩]:=by
  have cl:=xP (!(decide (n < 0) == false)) n.natAbs d.toNat J J J
  rw[Oc,rz,Th hd.1,<-Oc (decide (n < 0))] at cl
  refine fe func269 ntmps269 results269 fun hwf=>?_
  refine Cz o1 ?_
  refine cw o2 ?_
  refine Sz ?_
  refine cw cl ?_
  try simp (maxSteps:=9^9) only[go_sem]
 refine fe func202 ntmps202 results202 fun hwf=>?_
 refine Cz (tC n) ?_
 refine cw c1 ?_
 refine Sz ?_
 refine cw hM ?_
 try simp (maxSteps:=9^9) only[go_sem]
theorem KM (x:Option Rat) (hx:aY x):Fn prog 31 [⟨au,oD x⟩] false [⟨.int,pV x⟩]:=by
 have ca:=kI (oD x)
 have e1:br (oD x)=x.isSome:=by unfold br; rw[gr hx]
 rw[e1] at ca
 cases x with
 | none =>
  refine fe func31 ntmps31 results31 fun hwf=>?_
  refine Sz ?_
  refine cw ca ?_
  all_goals exact Fz
 | some p =>
  have cm:=qB (some p)
  refine fe func31 ntmps31 results31 fun hwf=>?_
  refine Cz ca ?_
  refine cw cm ?_
  all_goals exact Fz
abbrev DV:Type:=Int × Int
def fJ (k:Int) (v:DV):Bool:=decide (-k<=v.1/\v.1<=k) && decide (-k<=v.2/\v.2<=k)
def bm (v:DV):Bool:=fJ 1000 v
theorem eB {v:DV} (h:bm v=true):-1000<=v.1/\v.1<=1000/\-1000<=v.2/\v.2<=1000:=by
 unfold bm fJ at h
 rw[Bool.and_eq_true,decide_eq_true_iff,decide_eq_true_iff] at h
 omega
theorem I7 (v:DV):Fn prog 171 [⟨an,v⟩] false [⟨.bool,bm v⟩]:=by
 have c1:=dH v.1 (-1000) 1000
 have c2:=dH v.2 (-1000) 1000
 unfold bm fJ
 cases h:decide (-1000<=v.1/\v.1<=1000)<;>rw[h] at c1
 ·refine fe func171 ntmps171 results171 fun hwf=>?_
  refine Sz ?_
  refine cw c1 ?_
  try simp (maxSteps:=9^9) only[go_sem]
 ·refine fe func171 ntmps171 results171 fun hwf=>?_
  refine Cz c1 ?_
  refine cw c2 ?_
  try simp (maxSteps:=9^9) only[go_sem]
theorem fW (v:DV):Fn prog 178 [⟨an,v⟩] false [⟨.bool,bm v⟩]:=by
 have c1:=vd v.1 (-1000) 1000
 have c2:=vd v.2 (-1000) 1000
 unfold bm fJ
 cases h:decide (-1000<=v.1/\v.1<=1000)<;>rw[h] at c1
 ·refine fe func178 ntmps178 results178 fun hwf=>?_
  refine Sz ?_
  refine cw c1 ?_
  try simp (maxSteps:=9^9) only[go_sem]
 ·refine fe func178 ntmps178 results178 fun hwf=>?_
  refine Cz c1 ?_
  refine cw c2 ?_
  try simp (maxSteps:=9^9) only[go_sem]
theorem xF {x y:Int} (h1:-2000<=x) (h2:x<=2000) (h3:-2000<=y) (h4:y<=2000):-4000000<=x * y/\x * y<=4000000:=by
 have e1:0<=(2000 - x) * (2000 - y):=mul_nonneg J J
 have e2:0<=(2000+x) * (2000+y):=mul_nonneg J J
 have e3:0<=(2000 - x) * (2000+y):=mul_nonneg J J
 have e4:0<=(2000+x) * (2000 - y):=mul_nonneg J J
 simp only[Int.sub_mul,Int.add_mul,Int.mul_sub,Int.mul_add] at e1 e2 e3 e4
 omega
def bQ (a b c:DV):Int:=(b.1 - a.1) * (c.2 - a.2) - (b.2 - a.2) * (c.1 - a.1)
theorem M6 (a b c:DV) (ha:bm a=true) (hb:bm b=true) (hc:bm c=true):Fn prog 249 [⟨an,a⟩,⟨an,b⟩,⟨an,c⟩] false [⟨.int,bQ a b c⟩]:=by
 have ha:=eB ha; have hb:=eB hb; have hc:=eB hc
 have m1:=xF (x:=b.1 - a.1) (y:=c.2 - a.2) J J J J
 have m2:=xF (x:=b.2 - a.2) (y:=c.1 - a.1) J J J J
 unfold bQ
 refine fe func249 ntmps249 results249 fun hwf=>?_
 all_goals exact Fz
def Kg (a b c:DV):Int:=if bm a && bm b && bm c then bQ a b c else 0
theorem NL (a b c:DV):Fn prog 247 [⟨an,a⟩,⟨an,b⟩,⟨an,c⟩] false [⟨.int,Kg a b c⟩]:=by
 have c1:=fW a
 have c2:=fW b
 have c3:=fW c
 unfold Kg
 cases ha:bm a<;>rw[ha] at c1
 ·refine fe func247 ntmps247 results247 fun hwf=>?_
  refine Sz ?_
  refine cw c1 ?_
  try simp (maxSteps:=9^9) only[go_sem]
 ·cases hb:bm b<;>rw[hb] at c2
  ·refine fe func247 ntmps247 results247 fun hwf=>?_
   refine Cz c1 ?_
   refine cw c2 ?_
   try simp (maxSteps:=9^9) only[go_sem]
  ·cases hc:bm c<;>rw[hc] at c3
   ·refine fe func247 ntmps247 results247 fun hwf=>?_
    refine Cz c1 ?_
    refine cw c2 ?_
    refine Sz ?_
    refine cw c3 ?_
    try simp (maxSteps:=9^9) only[go_sem]
   ·have ha:=eB ha; have hb:=eB hb; have hc:=eB hc
    have m1:=xF (x:=b.1 - a.1) (y:=c.2 - a.2) J J J J
    have m2:=xF (x:=b.2 - a.2) (y:=c.1 - a.1) J J J J
    unfold bQ
    refine fe func247 ntmps247 results247 fun hwf=>?_
    refine Cz c1 ?_
    refine cw c2 ?_
    refine Sz ?_
    refine cw c3 ?_
    all_goals exact Fz
theorem Bg (F:FuncId) (p:DV->Bool) (hF:∀x:DV,Fn prog F [⟨an,x⟩] false [⟨.bool,p x⟩]) (l:List DV):Fn prog 248 [⟨.slice an,l⟩,⟨.dr (.fn F),()⟩] false [⟨.int,jL (t:=an) p l⟩]:=by
 refine fe func248 ntmps248 results248 fun hwf=>?_
 have hl:l.length<=9223372036854775807:=(hwf ⟨.slice an,l⟩ ah).1
 refine Nz ?_
 refine aF.intro _ _ _ (fun i:Nat=>⟨[(0,.sl an l),(1,.sc (.func (.func F) #[] #[])),(7,.sc (.int .i64 l.length)),(8,.sc (.int .i64 i))],[]⟩) (fun i=>∀j < i,j < l.length->p (nth (t:=an) l j)=false) (fun i=>l.length - i) 0 ?_ (fun j h=>by simp at h) ?_
 ·exact WK
 ·rintro i h2
  refine Nz ?_
  refine ao ?_ ?_<;>intro h3
  ·refine Bz (hF (nth (t:=an) l i)) ?_
   refine ig (fun h4=>?_) (fun h4=>?_)
   ·refine Nz ?_
    exact (jy J h4 (fun j hj=>h2 j hj J)).symm
   ·refine Sz ?_
    refine az.mk (i+1) ?_ (fun j hj hl=>?_) J
    ·exact WK
    ·by_cases hj2:j < i
     ·exact h2 j hj2 hl
     ·rw[show j=i from J]; exact h4
  ·refine Nz ?_
   exact (fP fun j hj=>h2 j J hj).symm
theorem wL (F:FuncId) (p:DV->Bool) (hF:∀x:DV,Fn prog F [⟨an,x⟩] false [⟨.bool,p x⟩]) (l:List DV):Fn prog 179 [⟨.slice an,l⟩,⟨.dr (.fn F),()⟩] false [⟨.bool,l.any p⟩]:=by
 refine fe func179 ntmps179 results179 fun hwf=>?_
 refine Bz (Bg F p hF l) ?_
 exact lq
theorem Lb (v:DV):Fn prog 242 [⟨an,v⟩] false [⟨.bool,!bm v⟩]:=by
 refine fe func242 ntmps242 results242 fun hwf=>?_
 refine Sz ?_
 refine cw (I7 v) ?_
 try simp (maxSteps:=9^9) only[go_sem]
theorem nQ (l:List DV):Fn prog 172 [⟨.slice an,l⟩] false [⟨.bool,!(l.any fun v=>!bm v)⟩]:=by
 refine fe func172 ntmps172 results172 fun hwf=>?_
 refine Sz ?_
 refine cw (wL _ _ Lb l) ?_
 try simp (maxSteps:=9^9) only[go_sem]
def dB (n i:Nat):Int:=((i:Int)+1) % (n:Int)
def rU (l:List DV) (i k:Nat):Prop:=¬ (k:Int)=i->¬ (k:Int)=dB l.length i->0 < bQ (nth (t:=an) l i) (nth (t:=an) l (dB l.length i).toNat) (nth (t:=an) l k)
def bO (l:List DV):Prop:=(3<=(l.length:Int)/\(l.length:Int)<=16)/\(∀v ∈ l,bm v=true)/\∀i k,i < l.length->k < l.length->rU l i k
def dD (l:List DV):Bool:=@decide (bO l) (Classical.propDecidable _)
theorem jg {l:List DV} (h:bO l):dD l=true:=@aj _ (Classical.propDecidable _) h
theorem rk {l:List DV} (h:¬ bO l):dD l=false:=@ak _ (Classical.propDecidable _) h
theorem Yt {l:List DV} (h:(l.any fun v=>!bm v)=false):∀v ∈ l,bm v=true:=by
 intro v hv
 rw[any_eq_false] at h
 simpa using h v hv
theorem iI {n i:Nat} (h:0 < n):0<=dB n i/\dB n i < n:=⟨Int.emod_nonneg _ J,Int.emod_lt_of_pos _ J⟩
theorem aU {l:List DV} {i:Nat} (h:i < l.length):nth (t:=an) l i ∈ l:=by rw[aM h]; exact getElem_mem h
theorem fm (l:List DV):Fn prog 181 [⟨.slice an,l⟩] false [⟨.bool,dD l⟩]:=by
 have c1:=dH l.length 3 16
 have c2:=nQ l
 by_cases h1:3<=(l.length:Int)/\(l.length:Int)<=16
 ·rw[aj h1] at c1
  cases h2:l.any fun v=>!bm v<;>rw[h2] at c2
  ·have hok:=Yt h2
   have hN:0 < l.length:=J
   refine fe func181 ntmps181 results181 fun hwf=>?_
   refine Cz c1 ?_
   refine cw c2 ?_
   refine Nz ?_
   refine aF.intro _ _ _ (fun i:Nat=>⟨[(0,.sl an l),(3,.sc (.int .i64 l.length)),(19,.sl an l),(20,.sc (.int .i64 l.length)),(21,.sc (.int .i64 i))],[]⟩) (fun i=>∀i' k,i' < i->i' < l.length->k < l.length->rU l i' k) (fun i=>l.length - i) 0 ?_ (fun i' k h=>absurd h (not_lt_zero _)) ?_
   ·exact WK
   ·rintro i hi
    have hr:=iI (i:=i) hN
    unfold dB at hr
    refine Nz ?_
    refine ao ?_ ?_<;>intro hA
    ·refine Sz ?_
     refine fR.pos J J ?_
     refine Sz ?_
     refine aF.intro _ _ _ (fun k:Nat=>⟨[(0,.sl an l),(3,.sc (.int .i64 l.length)),(19,.sl an l),(20,.sc (.int .i64 l.length)),(21,.sc (.int .i64 i)),(4,.sc (.int .i64 i)),(5,.ptr 0 0),(6,.ptr 1 0),(33,.sl an l),(34,.sc (.int .i64 l.length)),(35,.sc (.int .i64 k))],[(1,.box [.sc (.int .i64 (nth (t:=an) l (dB l.length i).toNat).1),.sc (.int .i64 (nth (t:=an) l (dB l.length i).toNat).2)]),(0,.box [.sc (.int .i64 (nth (t:=an) l i).1),.sc (.int .i64 (nth (t:=an) l i).2)])]⟩) (fun k=>∀k',k' < k->k' < l.length->rU l i k') (fun k=>l.length - k) 0 ?_ (fun k h=>absurd h (not_lt_zero _)) ?_
     ·exact WK
     ·rintro k hk
      have hv:=M6 (nth (t:=an) l i) (nth (t:=an) l (dB l.length i).toNat) (nth (t:=an) l k)
      have hi3:i < l.length:=J
      have oi:=hok _ (aU hi3)
      have on:=hok _ (aU (l:=l) (i:=(dB l.length i).toNat) (by unfold dB; omega))
      refine Nz ?_
      refine ao ?_ ?_<;>intro hB
      ·have hv:=hv oi on (hok _ (aU J))
       have hgo:rU l i k->∀k',k' < k+1->k' < l.length->rU l i k':=fun h k' h1 h2=>by
        by_cases h3:k' < k
        ·exact hk k' h3 h2
        ·rw[show k'=k from J]; exact h
       by_cases e1:(k:Int)=i
       ·have d1:=aj e1
        refine Tz d1 ?_
        refine az.mk (k+1) ?_ (hgo fun h=>absurd e1 h) J
        exact WK
       ·have d1:=ak e1
        by_cases e2:(k:Int)=((i:Int)+1) % (l.length:Int)
        ·have d2:=aj e2
         refine Tz d1 ?_
         refine fR.pos J J ?_
         refine Tz d2 ?_
         refine az.mk (k+1) ?_ (hgo fun _ h=>absurd e2 h) J
         exact WK
        ·have d2:=ak e2
         refine Tz d1 ?_
         refine fR.pos J J ?_
         refine Tz d2 ?_
         refine cw hv ?_
         refine Nz ?_
         refine ao (fun e3=>?_) (fun e3=>?_)
         ·have:¬ bO l:=fun h=>by
           have:=h.2.2 i k J J e1 e2
           omega
          rw[rk this]
          try simp (maxSteps:=9^9) only[go_sem]
         ·refine Sz ?_
          refine az.mk (k+1) ?_ (hgo fun _ _=>J) J
          exact WK
      ·refine Sz ?_
       refine az.mk (i+1) ?_ (fun i' k' h1 h2 h3=>?_) J
       ·exact WK
       ·by_cases h4:i' < i
        ·exact hi i' k' h4 h2 h3
        ·rw[show i'=i from J]; exact hk k' J h3
    ·have:bO l:=⟨h1,hok,fun i' k h3 h4=>hi i' k J h3 h4⟩
     rw[jg this]
     try simp (maxSteps:=9^9) only[go_sem]
  ·have:¬ bO l:=fun h=>by
    have:=h.2.1
    rw[List.any_eq_true] at h2
    obtain⟨v,hv,h3⟩:=h2
    rw[this v hv] at h3
    cases h3
   rw[rk this]
   refine fe func181 ntmps181 results181 fun hwf=>?_
   refine Cz c1 ?_
   refine cw c2 ?_
   try simp (maxSteps:=9^9) only[go_sem]
 ·rw[ak h1] at c1
  have:¬ bO l:=fun h=>h1 h.1
  rw[rk this]
  refine fe func181 ntmps181 results181 fun hwf=>?_
  refine Sz ?_
  refine cw c1 ?_
  try simp (maxSteps:=9^9) only[go_sem]
def ud (l:List DV) (i k:Nat):Prop:=bm (nth (t:=an) l k)=true/\(¬ (k:Int)=i->¬ (k:Int)=dB l.length i->0 < Kg (nth (t:=an) l i) (nth (t:=an) l (dB l.length i).toNat) (nth (t:=an) l k))
theorem Ry {l:List DV} (h:bO l) {i k:Nat} (hi:i < l.length) (hk:k < l.length):ud l i k:=by
 have hr:=iI (n:=l.length) (i:=i) J
 refine⟨h.2.1 _ (aU hk),fun h1 h2=>?_⟩
 have h3:=h.2.2 i k hi hk h1 h2
 unfold Kg
 rw[h.2.1 _ (aU hi),h.2.1 _ (aU hk),h.2.1 _ (aU (i:=(dB l.length i).toNat) J)]
 exact h3
theorem UY {l:List DV} (h0:3<=(l.length:Int)/\(l.length:Int)<=16) (h:∀i k,i < l.length->k < l.length->ud l i k):bO l:=by
 have hv:∀k,k < l.length->bm (nth (t:=an) l k)=true:=fun k hk=>(h 0 k J hk).1
 refine⟨h0,fun v hm=>?_,fun i k hi hk h1 h2=>?_⟩
 ·obtain⟨k,hk,rfl⟩:=getElem_of_mem hm
  have:=hv k hk
  rw[aM hk] at this
  exact this
 ·have hr:=iI (n:=l.length) (i:=i) J
  have h3:=(h i k hi hk).2 h1 h2
  unfold Kg at h3
  rw[hv i hi,hv k hk,hv (dB l.length i).toNat J] at h3
  exact h3
theorem Bi (l:List DV):Fn prog 177 [⟨.slice an,l⟩] false [⟨.bool,dD l⟩]:=by
 have c1:=vd l.length 3 16
 by_cases h1:3<=(l.length:Int)/\(l.length:Int)<=16
 ·rw[aj h1] at c1
  have hN:0 < l.length:=J
  refine fe func177 ntmps177 results177 fun hwf=>?_
  refine Bz c1 ?_
  refine aF.intro _ _ _ (fun i:Nat=>⟨[(0,.sl an l),(3,.sc (.int .i64 l.length)),(14,.sl an l),(15,.sc (.int .i64 l.length)),(16,.sc (.int .i64 i))],[]⟩) (fun i=>∀i' k,i' < i->i' < l.length->k < l.length->ud l i' k) (fun i=>l.length - i) 0 ?_ (fun i' k h=>absurd h (not_lt_zero _)) ?_
  ·exact WK
  ·rintro i hi
   have hr:=iI (i:=i) hN
   unfold dB at hr
   refine Nz ?_
   refine ao ?_ ?_<;>intro hA
   ·refine Sz ?_
    refine fR.pos J J ?_
    refine Sz ?_
    refine aF.intro _ _ _ (fun k:Nat=>⟨[(0,.sl an l),(3,.sc (.int .i64 l.length)),(14,.sl an l),(15,.sc (.int .i64 l.length)),(16,.sc (.int .i64 i)),(4,.sc (.int .i64 i)),(5,.ptr 0 0),(6,.ptr 1 0),(28,.sl an l),(29,.sc (.int .i64 l.length)),(30,.sc (.int .i64 k))],[(1,.box [.sc (.int .i64 (nth (t:=an) l (dB l.length i).toNat).1),.sc (.int .i64 (nth (t:=an) l (dB l.length i).toNat).2)]),(0,.box [.sc (.int .i64 (nth (t:=an) l i).1),.sc (.int .i64 (nth (t:=an) l i).2)])]⟩) (fun k=>∀k',k' < k->k' < l.length->ud l i k') (fun k=>l.length - k) 0 ?_ (fun k h=>absurd h (not_lt_zero _)) ?_
    ·exact WK
    ·rintro k hk
     have hv:=NL (nth (t:=an) l i) (nth (t:=an) l (dB l.length i).toNat) (nth (t:=an) l k)
     have hw:=fW (nth (t:=an) l k)
     refine Nz ?_
     refine ao ?_ ?_<;>intro hB
     ·have hgo:ud l i k->∀k',k' < k+1->k' < l.length->ud l i k':=fun h k' h1 h2=>by
       by_cases h3:k' < k
       ·exact hk k' h3 h2
       ·rw[show k'=k from J]; exact h
      cases e0:bm (nth (t:=an) l k)<;>rw[e0] at hw
      ·have:¬ bO l:=fun h=>by
        have:=h.2.1 _ (aU (l:=l) (i:=k) J)
        rw[e0] at this; cases this
       rw[rk this]
       refine Sz ?_
       refine cw hw ?_
       try simp (maxSteps:=9^9) only[go_sem]
      ·by_cases e1:(k:Int)=i
       ·have d1:=aj e1
        refine Bz hw ?_
        refine Tz d1 ?_
        refine az.mk (k+1) ?_ (hgo ⟨e0,fun h=>absurd e1 h⟩) J
        exact WK
       ·have d1:=ak e1
        by_cases e2:(k:Int)=((i:Int)+1) % (l.length:Int)
        ·have d2:=aj e2
         refine Bz hw ?_
         refine Tz d1 ?_
         refine fR.pos J J ?_
         refine Tz d2 ?_
         refine az.mk (k+1) ?_ (hgo ⟨e0,fun _ h=>absurd e2 h⟩) J
         exact WK
        ·have d2:=ak e2
         refine Bz hw ?_
         refine Tz d1 ?_
         refine fR.pos J J ?_
         refine Tz d2 ?_
         refine cw hv ?_
         refine Nz ?_
         refine ao (fun e3=>?_) (fun e3=>?_)
         ·have:¬ bO l:=fun h=>by
           have:=(Ry h (i:=i) (k:=k) J J).2 e1 e2
           omega
          rw[rk this]
          try simp (maxSteps:=9^9) only[go_sem]
         ·refine Sz ?_
          refine az.mk (k+1) ?_ (hgo ⟨e0,fun _ _=>J⟩) J
          exact WK
     ·refine Sz ?_
      refine az.mk (i+1) ?_ (fun i' k' h1 h2 h3=>?_) J
      ·exact WK
      ·by_cases h4:i' < i
       ·exact hi i' k' h4 h2 h3
       ·rw[show i'=i from J]; exact hk k' J h3
   ·have:bO l:=UY h1 fun i' k h3 h4=>hi i' k J h3 h4
    rw[jg this]
    try simp (maxSteps:=9^9) only[go_sem]
 ·rw[ak h1] at c1
  have:¬ bO l:=fun h=>h1 h.1
  rw[rk this]
  refine fe func177 ntmps177 results177 fun hwf=>?_
  refine Sz ?_
  refine cw c1 ?_
  try simp (maxSteps:=9^9) only[go_sem]
def cg (a b:DV):Prop:=a.1 < b.1\/a.1=b.1/\a.2 < b.2
instance (a b:DV):Decidable (cg a b):=by unfold cg; infer_instance
theorem eD (a:DV):¬ cg a a:=by unfold cg; omega
theorem kM {a b c:DV} (h1:cg a b) (h2:cg b c):cg a c:=by unfold cg at *; omega
theorem mT (a b:DV):cg a b\/a=b\/cg b a:=by
 obtain⟨a1,a2⟩:=a
 obtain⟨b1,b2⟩:=b
 unfold cg
 simp only[Prod.mk.injEq]
 omega
theorem sU {a b:DV} (h:cg a b):¬ cg b a:=fun h2=>eD _ (kM h h2)
theorem CL:∀{l m:List DV},l.Pairwise cg->m.Pairwise cg->(∀x,x ∈ l ↔ x ∈ m)->l=m
 | [],[],_,_,_=>rfl
 | [],b :: m,_,_,h=>absurd ((h b).2 mem_cons_self) ah
 | a :: l,[],_,_,h=>absurd ((h a).1 mem_cons_self) ah
 | a :: l,b :: m,h1,h2,h=>by
  rw[pairwise_cons] at h1 h2
  have hab:a=b:=by
   rcases mem_cons.1 ((h a).1 mem_cons_self) with e|e
   ·exact e
   ·rcases mem_cons.1 ((h b).2 mem_cons_self) with e2|e2
    ·exact e2.symm
    ·exact absurd (kM (h1.1 b e2) (h2.1 a e)) (eD _)
  subst hab
  refine congrArg (a :: ·) (CL h1.2 h2.2 fun x=>⟨fun hx=>?_,fun hx=>?_⟩)
  ·rcases mem_cons.1 ((h x).1 (mem_cons_of_mem _ hx)) with e|e
   ·subst e; exact absurd (h1.1 _ hx) (eD _)
   ·exact e
  ·rcases mem_cons.1 ((h x).2 (mem_cons_of_mem _ hx)) with e|e
   ·subst e; exact absurd (h2.1 _ hx) (eD _)
   ·exact e
def eJ:List DV->List DV
 | []=>[]
 | [a]=>[a]
 | a :: b :: l=>if a=b then eJ (b :: l) else a :: eJ (b :: l)
theorem uT:∀{l:List DV} {x:DV},x ∈ eJ l ↔ x ∈ l
 | [],x=>by simp[eJ]
 | [a],x=>by simp[eJ]
 | a :: b :: l,x=>by
  have ih:=uT (l:=b :: l) (x:=x)
  unfold eJ
  split
  ·rename_i h; subst h; rw[ih]; simp
  ·rw[mem_cons,ih,mem_cons,mem_cons,mem_cons]
theorem AM:∀{l:List DV},(eJ l).length<=l.length
 | []=>by simp[eJ]
 | [a]=>by simp[eJ]
 | a :: b :: l=>by
  have ih:=AM (l:=b :: l)
  unfold eJ
  split<;>simp only[length_cons] at ih ⊢<;>omega
theorem Hs:∀{l:List DV},l.Pairwise (fun a b=>¬ cg b a)->(eJ l).Pairwise cg
 | [],_=>by simp[eJ]
 | [a],_=>by simp[eJ]
 | a :: b :: l,h=>by
  rw[pairwise_cons] at h
  have ih:=Hs h.2
  unfold eJ
  split
  ·exact ih
  ·rename_i hne
   refine pairwise_cons.2 ⟨fun x hx=>?_,ih⟩
   rw[uT] at hx
   have hb:¬ cg b a:=h.1 b mem_cons_self
   have hab:cg a b:=by
    rcases mT a b with h|h|h
    ·exact h
    ·exact absurd h hne
    ·exact absurd h hb
   rcases mem_cons.1 hx with rfl|hx
   ·exact hab
   ·rcases mT b x with h3|h3|h3
    ·exact kM hab h3
    ·exact h3 ▸ hab
    ·exact absurd h3 ((pairwise_cons.1 h.2).1 x hx)
def Kf (a b:DV):Int:=if a.1=b.1 then a.2 - b.2 else a.1 - b.1
theorem l4 (a b:DV):Kf a b < 0 ↔ cg a b:=by
 unfold Kf cg
 split<;>omega
def w9 (a b:DV):Bool:=!decide (Kf b a < 0)
theorem uG (a b:DV):w9 a b=true ↔ ¬ cg b a:=by
 unfold w9
 rw[not_eq_true',decide_eq_false_iff_not,l4]
def fa (l:List DV):List DV:=eJ (l.mergeSort w9)
theorem ja {l:List DV} {x:DV}:x ∈ fa l ↔ x ∈ l:=by
 unfold fa
 rw[uT,List.mem_mergeSort]
theorem Hb (l:List DV):(fa l).Pairwise cg:=by
 refine Hs ?_
 have h:=List.pairwise_mergeSort (le:=w9) (fun a b c h1 h2=>by
  rw[uG] at *
  intro h
  rcases mT b a with h3|h3|h3
  ·exact h1 h3
  ·subst h3; exact h2 h
  ·exact h2 (kM h h3)) (fun a b=>by
  rcases mT a b with h|h|h
  ·rw[or_eq_true]; exact .inl ((uG a b).2 (sU h))
  ·subst h; rw[or_eq_true]; exact .inl ((uG a a).2 (eD _))
  ·rw[or_eq_true]; exact .inr ((uG b a).2 (sU h))) l
 exact h.imp fun {a b} h=>(uG a b).1 h
theorem Hk (l:List DV):(fa l).length<=l.length:=by
 unfold fa
 have:=AM (l:=l.mergeSort w9)
 rw[List.length_mergeSort] at this
 exact this
theorem X0 {l m:List DV} (h1:m.Pairwise cg) (h2:∀x,x ∈ m ↔ x ∈ l):m=fa l:=CL h1 (Hb l) fun x=>by rw[h2,ja]
def kv (p:DV):List DV->List DV
 | []=>[p]
 | a :: l=>if cg a p then a :: kv p l else if a=p then a :: l else p :: a :: l
theorem A5 {p x:DV}:∀{l:List DV},x ∈ kv p l ↔ x=p\/x ∈ l
 | []=>by simp[kv]
 | a :: l=>by
  have ih:=A5 (p:=p) (x:=x) (l:=l)
  unfold kv
  split
  ·rw[mem_cons,ih,mem_cons]; constructor
   ·rintro (h|h|h)
    ·exact .inr (.inl h)
    ·exact .inl h
    ·exact .inr (.inr h)
   ·rintro (h|h|h)
    ·exact .inr (.inl h)
    ·exact .inl h
    ·exact .inr (.inr h)
  ·split
   ·rename_i h; subst h; simp
   ·simp
theorem I1 {p:DV}:∀{l:List DV},l.Pairwise cg->(kv p l).Pairwise cg
 | [],_=>by simp[kv]
 | a :: l,h=>by
  have h':=h
  rw[pairwise_cons] at h
  unfold kv
  split
  ·rename_i hlt
   refine pairwise_cons.2 ⟨fun x hx=>?_,I1 h.2⟩
   rcases A5.1 hx with rfl|hx
   ·exact hlt
   ·exact h.1 x hx
  ·split
   ·exact h'
   ·rename_i h1 h2
    have hp:cg p a:=by
     rcases mT a p with h3|h3|h3
     ·exact absurd h3 h1
     ·exact absurd h3 h2
     ·exact h3
    refine pairwise_cons.2 ⟨fun x hx=>?_,h'⟩
    rcases mem_cons.1 hx with rfl|hx
    ·exact hp
    ·exact kM hp (h.1 x hx)
theorem NB {p:DV}:∀{l:List DV} {i:Nat},i<=l.length->(∀j,j < i->cg (nth (t:=an) l j) p)->(i < l.length->¬ cg (nth (t:=an) l i) p) →
  kv p l=if i < l.length/\nth (t:=an) l i=p then l else l.take i++p :: l.drop i
 | [],0,_,_,_=>by simp[kv]
 | [],i+1,h,_,_=>by simp at h
 | a :: l,0,_,_,h2=>by
  have h2:¬ cg a p:=h2 ah
  have e:nth (t:=an) (a :: l) 0=a:=rfl
  unfold kv
  rw[if_neg h2,e]
  by_cases h3:a=p
  ·rw[if_pos h3,if_pos ⟨by simp,h3⟩]
  ·rw[if_neg h3,if_neg fun h=>h3 h.2]; rfl
 | a :: l,i+1,hi,h1,h2=>by
  have e:∀j,nth (t:=an) (a :: l) (j+1)=nth (t:=an) l j:=fun j=>by simp[nth]
  have h0:cg a p:=h1 0 J
  have ih:=NB (p:=p) (l:=l) (i:=i) (by simp only[length_cons] at hi; omega) (fun j hj=>by rw[<-e]; exact h1 (j+1) J) (fun hj=>by rw[<-e]; exact h2 (by simp only[length_cons]; omega))
  unfold kv
  rw[if_pos h0,ih,e]
  by_cases h3:i < l.length/\nth (t:=an) l i=p
  ·rw[if_pos h3,if_pos ⟨by simp only[length_cons]; omega,h3.2⟩]
  ·rw[if_neg h3,if_neg fun h=>h3 ⟨by have:=h.1; simp only[length_cons] at this; omega,h.2⟩]; rfl
def oC (l:List DV) (i:Nat):List DV:=(l.take i).foldl (fun s p=>kv p s) []
theorem F7 {l:List DV} {i:Nat} (h:i < l.length):oC l (i+1)=kv (nth (t:=an) l i) (oC l i):=by
 unfold oC
 rw[aM h,take_succ_eq_append_getElem h,List.foldl_append]; rfl
theorem Ha:∀{l s:List DV},s.Pairwise cg->(l.foldl (fun s p=>kv p s) s).Pairwise cg/\∀x,x ∈ l.foldl (fun s p=>kv p s) s ↔ x ∈ l\/x ∈ s
 | [],s,h=>⟨h,fun x=>by simp⟩
 | p :: l,s,h=>by
  obtain⟨h1,h2⟩:=Ha (l:=l) (I1 (p:=p) h)
  refine⟨h1,fun x=>?_⟩
  rw[List.foldl_cons,h2,A5,mem_cons]
  constructor
  ·rintro (h|h|h)
   ·exact .inl (.inr h)
   ·exact .inl (.inl h)
   ·exact .inr h
  ·rintro ((h|h)|h)
   ·exact .inr (.inl h)
   ·exact .inl h
   ·exact .inr (.inr h)
theorem Vc (l:List DV):oC l l.length=fa l:=by
 unfold oC
 rw[List.take_length]
 obtain⟨h1,h2⟩:=Ha (l:=l) (s:=[]) List.Pairwise.nil
 exact X0 h1 fun x=>by rw[h2]; simp
theorem Ka {p:DV}:∀{l:List DV},(kv p l).length<=l.length+1
 | []=>by simp[kv]
 | a :: l=>by
  have ih:=Ka (p:=p) (l:=l)
  unfold kv
  split
  ·simp only[length_cons]; omega
  ·split<;>simp only[length_cons]<;>omega
theorem Ak (l:List DV):∀i,(oC l i).length<=i
 | 0=>by simp[oC]
 | i+1=>by
  by_cases h:i < l.length
  ·rw[F7 h]
   have:=Ka (p:=nth (t:=an) l i) (l:=oC l i)
   have:=Ak l i
   omega
  ·have:oC l (i+1)=oC l i:=by
    unfold oC; rw[take_of_length_le J,take_of_length_le J]
   rw[this]
   have:=Ak l i
   omega
def fN (v:DV):List DV->List DV
 | b :: a :: l=>if bQ a b v<=0 then fN v (a :: l) else b :: a :: l
 | l=>l
theorem JF {v:DV}:∀{l:List DV},(fN v l).length<=l.length
 | []=>le_refl _
 | [a]=>le_refl _
 | b :: a :: l=>by
  unfold fN
  split
  ·exact le_trans JF ah
  ·exact le_refl _
theorem HK {v x:DV}:∀{l:List DV},x ∈ fN v l->x ∈ l
 | [],h=>h
 | [a],h=>h
 | b :: a :: l,h=>by
  unfold fN at h
  split at h
  ·exact mem_cons_of_mem _ (HK h)
  ·exact h
def gJ (l:List DV):List DV:=l.foldl (fun c v=>v :: fN v c) []
def eF (l:List DV) (i:Nat):List DV:=gJ (l.take i)
theorem na {l:List DV} {i:Nat} (h:i < l.length):eF l (i+1)=nth (t:=an) l i :: fN (nth (t:=an) l i) (eF l i):=by
 unfold eF gJ
 rw[aM h,take_succ_eq_append_getElem h,List.foldl_append]; rfl
theorem ox (l:List DV):∀i,(eF l i).length<=i
 | 0=>by simp[eF,gJ]
 | i+1=>by
  by_cases h:i < l.length
  ·rw[na h,length_cons]
   have:=JF (v:=nth (t:=an) l i) (l:=eF l i)
   have:=ox l i
   omega
  ·have:eF l (i+1)=eF l i:=by
    unfold eF; rw[take_of_length_le J,take_of_length_le J]
   rw[this]
   have:=ox l i
   omega
theorem rJ {l:List DV} {x:DV}:∀{i:Nat},x ∈ eF l i->x ∈ l
 | 0,h=>by simp[eF,gJ] at h
 | i+1,h=>by
  by_cases hi:i < l.length
  ·rw[na hi] at h
   rcases mem_cons.1 h with rfl|h
   ·exact aU hi
   ·exact rJ (HK h)
  ·have e:eF l (i+1)=eF l i:=by
    unfold eF; rw[take_of_length_le J,take_of_length_le J]
   rw[e] at h
   exact rJ h
def py (l:List DV):List DV:=(gJ l).reverse.dropLast
def bT (l:List DV):List DV:=if (fa l).length < 2 then fa l else py (fa l)++py (fa l).reverse
def qa (v:DV):DV:=(-v.2,v.1)
def iy:Nat->DV->DV
 | 0,v=>v
 | n+1,v=>qa (iy n v)
theorem rm {v:DV} (h1:-1000<=v.1) (h2:v.1<=1000) (h3:-1000<=v.2) (h4:v.2<=1000):bm v=true:=by
 unfold bm fJ
 rw[Bool.and_eq_true,decide_eq_true_iff,decide_eq_true_iff]
 exact⟨⟨h1,h2⟩,h3,h4⟩
theorem DN {v:DV} (h:bm v=true):∀n,bm (iy n v)=true
 | 0=>h
 | n+1=>by
  have:=eB (DN h n)
  show bm (qa (iy n v))=true
  unfold qa
  exact rm (by simp only; omega) (by simp only; omega) (by simp only; omega) (by simp only; omega)
theorem Pp (v:DV) (k:Int) (hv:bm v=true) (hk:0<=k/\k<=3):Fn prog 313 [⟨an,v⟩,⟨.int,k⟩] false [⟨an,iy k.toNat v⟩]:=by
 have e:(k % 4+4) % 4=k:=J
 refine fe func313 ntmps313 results313 fun hwf=>?_
 refine Nz ?_
 refine fR.pos J ae ?_
 refine Sz ?_
 refine fR.pos J ae ?_
 rw[e]
 refine Nz ?_
 refine aF.intro _ _ _ (fun i:Nat=>⟨[(2,.ptr 0 0),(4,.ptr 1 0),(8,.sc (.int .i64 k)),(9,.sc (.int .i64 i))],[(1,.box [.sc (.int .i64 0),.sc (.int .i64 0)]),(0,.box [.sc (.int .i64 (iy i v).1),.sc (.int .i64 (iy i v).2)])]⟩) (fun i=>i<=k.toNat) (fun i=>k.toNat - i) 0 ?_ (zero_le _) ?_
 ·exact WK
 ·rintro i hi
  have hb:=eB (DN hv i)
  have hst:iy (i+1) v=(-(iy i v).2,(iy i v).1):=rfl
  generalize iy i v=u at hb hst ⊢
  obtain⟨b1,b2,b3,b4⟩:=hb
  refine Nz ?_
  refine ao ?_ ?_<;>intro hA
  ·refine Sz ?_
   refine az.mk (i+1) ?_ J J
   rw[hst]
   exact WK
  ·rw[show k.toNat=i from J]
   all_goals exact Fz
def tH (f:DV->DV) (l:List DV) (i:Nat):List DV:=(l.take i).map f
theorem xy {f:DV->DV} {l:List DV} {i:Nat} (h:i < l.length):tH f l (i+1)=tH f l i++[f (nth (t:=an) l i)]:=by
 unfold tH
 rw[take_succ_eq_append_getElem h,aM h,map_append]
 rfl
theorem AK {f:DV->DV} {l:List DV} {i:Nat} (h:i<=l.length):(tH f l i).length=i:=by
 unfold tH
 rw[length_map,length_take]; omega
theorem As {f:DV->DV} {l:List DV} {i:Nat} (h:l.length<=i):tH f l i=l.map f:=by
 unfold tH
 rw[take_of_length_le h]
theorem xU {l:List DV} (h:∀v ∈ l,bm v=true):(l.any fun v=>!bm v)=false:=by
 rw[any_eq_false]
 intro v hv
 rw[h v hv]; decide
theorem BU (l:List DV) (k:Int) (hl:∀v ∈ l,bm v=true) (hn:l.length<=1048576) (hk:0<=k/\k<=3):Fn prog 271 [⟨.slice an,l⟩,⟨.int,k⟩] true [⟨.slice an,l.map (iy k.toNat)⟩]:=by
 have c1:=nQ l
 rw[xU hl] at c1
 refine fe func271 ntmps271 results271 fun hwf=>?_
 refine Bz c1 ?_
 refine aF.intro _ _ _ (fun i:Nat=>⟨[(1,.sc (.int .i64 k)),(5,.row 0 0),(12,.sl an l),(13,.sc (.int .i64 l.length)),(14,.sc (.int .i64 i))],[(0,.row 24 an 0 true (tH (iy k.toNat) l i))]⟩) (fun i=>i<=l.length) (fun i=>l.length - i) 0 ?_ (zero_le _) ?_
 ·exact WK
 ·rintro i hi
  refine Nz ?_
  refine ao ?_ ?_<;>intro hA
  ·have hlt:i < l.length:=J
   have hml:=AK (f:=iy k.toNat) (l:=l) (i:=i) J
   have e:=xy (f:=iy k.toNat) hlt
   have c2:=Pp (nth (t:=an) l i) k (hl _ (aU hlt)) hk
   refine Bz c2 ?_
   refine Tz hml ?_
   refine az.mk (i+1) ?_ J J
   rw[e]
   refine Wk.mk [] ?_
   refine Nz ?_
   try (and_intros<;>first|rfl|omega|exact⟨_,rfl⟩)
   all_goals (first|exact⟨J,rfl⟩|exact⟨rfl,rfl⟩)
  ·rw[As J]
   try simp (maxSteps:=9^9) only[go_sem]
def nU (v:DV):DV:=(-v.1,-v.2)
theorem zt (l:List DV) (hl:∀v ∈ l,bm v=true) (hn:l.length<=1048576):Fn prog 273 [⟨.slice an,l⟩] true [⟨.slice an,l.map nU⟩]:=by
 have c1:=nQ l
 rw[xU hl] at c1
 refine fe func273 ntmps273 results273 fun hwf=>?_
 refine Bz c1 ?_
 refine aF.intro _ _ _ (fun i:Nat=>⟨[(3,.row 0 0),(10,.sl an l),(11,.sc (.int .i64 l.length)),(12,.sc (.int .i64 i))],[(0,.row 24 an 0 true (tH nU l i))]⟩) (fun i=>i<=l.length) (fun i=>l.length - i) 0 ?_ (zero_le _) ?_
 ·exact WK
 ·rintro i hi
  refine Nz ?_
  refine ao ?_ ?_<;>intro hA
  ·have hlt:i < l.length:=J
   have hml:=AK (f:=nU) (l:=l) (i:=i) J
   have e:=xy (f:=nU) hlt
   have hb:=eB (hl _ (aU hlt))
   obtain⟨b1,b2,b3,b4⟩:=hb
   refine Sz ?_
   refine Tz hml ?_
   refine az.mk (i+1) ?_ J J
   rw[e]
   unfold nU
   refine Wk.mk [] ?_
   refine Nz ?_
   try (and_intros<;>first|rfl|omega|exact⟨_,rfl⟩)
   all_goals (first|exact⟨J,rfl⟩|exact⟨rfl,rfl⟩)
  ·rw[As J]
   try simp (maxSteps:=9^9) only[go_sem]
def fb (v c:DV):DV:=(c.1+v.1,c.2+v.2)
theorem UJ (l:List DV) (v:DV) (hv:bm v=true) (hl:∀v ∈ l,bm v=true) (hn:l.length<=1048576):Fn prog 170 [⟨.slice an,l⟩,⟨an,v⟩] true [⟨.slice an,l.map (fb v)⟩]:=by
 obtain⟨q1,q2,q3,q4⟩:=eB hv
 refine fe func170 ntmps170 results170 fun hwf=>?_
 refine Nz ?_
 refine aF.intro _ _ _ (fun i:Nat=>⟨[(3,.ptr 0 0),(5,.row 1 0),(9,.sl an l),(10,.sc (.int .i64 l.length)),(11,.sc (.int .i64 i))],[(1,.row 24 an 0 true (tH (fb v) l i)),(0,.box [.sc (.int .i64 v.1),.sc (.int .i64 v.2)])]⟩) (fun i=>i<=l.length) (fun i=>l.length - i) 0 ?_ (zero_le _) ?_
 ·exact WK
 ·rintro i hi
  refine Nz ?_
  refine ao ?_ ?_<;>intro hA
  ·have hlt:i < l.length:=J
   have hml:=AK (f:=fb v) (l:=l) (i:=i) J
   have e:=xy (f:=fb v) hlt
   obtain⟨b1,b2,b3,b4⟩:=eB (hl _ (aU hlt))
   refine Sz ?_
   refine Tz hml ?_
   refine az.mk (i+1) ?_ J J
   rw[e]
   unfold fb
   refine Wk.mk [] ?_
   refine Nz ?_
   try (and_intros<;>first|rfl|omega|exact⟨_,rfl⟩)
   all_goals (first|exact⟨J,rfl⟩|exact⟨rfl,rfl⟩)
  ·rw[As J]
   try simp (maxSteps:=9^9) only[go_sem]
section
variable {P:Program} {f:FuncId} {fn:Func} {code:Code}
theorem enters (hf:P.funcs[f]? = some fn) (hname:(fn.name == "runtime.NumGoroutine")=false) (hb:fn.body=some code):∀vs w,(callFunc f vs).run P w=.ok (.enter f vs) w:=by
 intro vs w
 have h1:fn.name ≠ "runtime.NumGoroutine":=by simpa using hname
 simp[callFunc,hf,h1,hb]
theorem vU {w:World} {v:Value} {n:Int} {fp:List Nat} (h:bV w v ⟨.int,n⟩ fp):v=.int .i64 n:=by
 obtain⟨cs,hp,hr⟩:=h
 rcases hp with ⟨h,_⟩|⟨_,rfl⟩
 ·cases h
 ·exact (List.cons.inj hr.1).1
theorem Fg {own:Bool} {base:Nat} {S:Nat->Prop} {w:World} {n:Bool}:oy own base S w (.bool n) ⟨.bool,n⟩:=⟨[],⟨[_],.inr ⟨rfl,rfl⟩,rfl,rfl⟩,fun _=>pO _ _,fun b hb=>by cases hb⟩
variable (en:∀vs w,(callFunc f vs).run P w=.ok (.enter f vs) w)
include en
theorem Fn.ofEq {t:Ty} {x y:t.den} {r:Bool} (h:∀w v cs u ds,pk t v cs->Has t.rp w cs x->pk t u ds->Has t.rp w ds y->Calls P f #[v,u] w (Post fun v w'=>v=.bool r/\Below w.heap.size w w')):Fn P f [⟨t,x⟩,⟨t,y⟩] false [⟨.bool,r⟩]:=by
 refine⟨en,fun w vs S _ ha=>?_⟩
 match vs,ha with
 | [v1,v2],⟨⟨fp1,⟨cs,hp,hr⟩,_⟩,⟨fp2,⟨ds,hp2,hr2⟩,_⟩,_⟩ =>
  refine (h w v1 cs v2 ds hp ⟨fp1,hr⟩ hp2 ⟨fp2,hr2⟩).mono fun e w' ⟨v,he,hv,hb⟩=>⟨hb,v,he,?_⟩
  subst hv
  exact Fg
 | [],ha=>exact ha.elim
 | [_],ha=>exact ha.2.elim
 | _ :: _ :: _ :: _,ha=>exact ha.2.2.elim
theorem LW.of1 {t:Ty} {x:t.den} (ht:t.isAgg=true) (h:∀w cs,Has t.rp w cs x->Calls P f #[.agg cs.toArray] w (Post fun v w'=>v=.agg cs.toArray/\Below w.heap.size w w')):LW P f [⟨t,x⟩] 0:=by
 refine⟨en,fun w vs _ ha=>?_⟩
 match vs,ha with
 | [v1],⟨⟨fp1,cs,hp,hr⟩,_⟩ =>
  rcases hp with ⟨_,rfl⟩|⟨h0,_⟩
  ·exact (h w cs ⟨fp1,hr⟩).mono fun e w' ⟨v,he,hv,hb⟩=>⟨hb,_,rfl,by rw[he,hv]⟩
  ·rw[ht] at h0; cases h0
 | [],ha=>exact ha.elim
 | _ :: _ :: _,ha=>exact ha.2.elim
end
theorem S9 {t:Ty} {v:Value} {cs:List Value} (ht:t.isAgg=true) (h:pk t v cs):v=.agg cs.toArray:=by
 rcases h with ⟨_,h⟩|⟨h,_⟩
 ·exact h
 ·rw[ht] at h; cases h
theorem Ti {t:Ty} {v:Value} {cs:List Value} (ht:t.isAgg=false) (h:pk t v cs):cs=[v]:=by
 rcases h with ⟨h,_⟩|⟨_,h⟩
 ·rw[ht] at h; cases h
 ·exact h
end DW

section
open Go.RowKit
section
variable {o:Bool} {base:Nat} {w w':World} {e:TypeId} {v:Value} {l:List Int}
end
section
variable {P:Program} (w:World)
end
end

section
open Go.RowKit
end

section
open Go.RowKit DW
theorem K6 (c0 c1 c2 c3 c4 c5:Value) (x:II) (w:World) (hx:Has G7 w [c0,c1,c2,c3,c4,c5] x) (hg:DW.Fn prog 363 [⟨DW.ax,x⟩] false [⟨.bool,true⟩]) :
  Calls prog 330 #[.agg #[c0,c1,c2,c3,c4,c5]] w (Post fun v w'=>v=.agg #[c0,c1,c2,c3,c4,c5]/\Below w.heap.size w w'):=by
 have HX:=Lib.hid hx
 have ho0:=hx.one 0 c0 rfl
 have ho1:=hx.one 1 c1 rfl
 have ho2:=hx.one 2 c2 rfl
 have ho3:=hx.one 3 c3 rfl
 have ho4:=hx.one 4 c4 rfl
 have ho5:=hx.one 5 c5 rfl
 have HG:=Lib.hid hg
 clear hx hg
 go_enter func330,ntmps330
 go_wp2_with fail
 have hp1:=((Below.refl w.heap.size w).alloc (le_refl _) (Obj.cells #[c0,c1,c2,c3,c4,c5] 42)).alloc (by simp<;>omega) (Obj.cells #[.bool false,.slice none 0 0,.slice none 0 0,.bool false,.slice none 0 0,.slice none 0 0] 42)
 refine (HG.out.bool (vs:=[.agg #[c0,c1,c2,c3,c4,c5]]) ⟨Arg.agg (t:=DW.ax) (cs:=[c0,c1,c2,c3,c4,c5]) rfl (HX.out.below hp1),trivial⟩).mono ?_
 rintro e w1 ⟨v,rfl,rfl,hc1⟩
 have hb1:=Below.up hp1 hc1 (by simp<;>omega)
 have hlt1:w.heap.size+1 < w1.heap.size:=Nat.lt_of_lt_of_le (by simp<;>omega) hc1.size
 obtain⟨hcr1,hfr1⟩:=OF hc1
 go_wp2
 refine bodyPost_ret (v:=.agg #[c0,c1,c2,c3,c4,c5]) (by simp[results,go_sem,hlt1,hcr1]) rfl ⟨_,rfl,rfl,?_⟩
 exact ((((((hb1).setCell (p:=⟨w.heap.size+1,0,none⟩) ah c0).setCell (p:=⟨w.heap.size+1,1,none⟩) ah c1).setCell (p:=⟨w.heap.size+1,2,none⟩) ah c2).setCell (p:=⟨w.heap.size+1,3,none⟩) ah c3).setCell (p:=⟨w.heap.size+1,4,none⟩) ah c4).setCell (p:=⟨w.heap.size+1,5,none⟩) ah c5
end

namespace DW
open Go.RowKit
abbrev M7:DP:=(rZ,rZ)
theorem tM (x y:Option Rat):Fn prog 363 [⟨ax,(oD x,oD y)⟩] false [⟨.bool,x.isSome && y.isSome⟩]:=by
 cases hx:x.isSome
 ·refine fe func363 ntmps363 results363 fun hwf=>?_
  refine Bz (h9 x) ?_
  try simp (maxSteps:=9^9) only[go_sem,hx]
  repeat refine AI ?_
 ·refine fe func363 ntmps363 results363 fun hwf=>?_
  refine Bz (h9 x) ?_
  refine Tz hx ?_
  refine cw (h9 y) ?_
  try simp (maxSteps:=9^9) only[go_sem]
  repeat refine AI ?_
theorem C9 (x y:Option Rat) (h:(x.isSome && y.isSome)=false):Fn prog 330 [⟨ax,(oD x,oD y)⟩] true [⟨ax,M7⟩]:=by
 have h1:=tM x y
 rw[h] at h1
 refine fe func330 ntmps330 results330 fun hwf=>?_
 refine Sz ?_
 refine cw h1 ?_
 all_goals exact Fz
theorem zV (x y:Option Rat) (h:(x.isSome && y.isSome)=true):LW prog 330 [⟨ax,(oD x,oD y)⟩] 0:=by
 have h1:=tM x y
 rw[h] at h1
 refine LW.of1 (enters func330 rfl rfl) rfl fun w cs hc=>?_
 obtain⟨c0,c1,c2,c3,c4,c5,rfl⟩:=PA hc.len
 exact K6 c0 c1 c2 c3 c4 c5 _ w hc h1
def Fy (p q r:DP):Int:=pV (bo (eT (bo (aw q.1) (aw p.1)) (bo (aw r.2) (aw p.2))) (eT (bo (aw q.2) (aw p.2)) (bo (aw r.1) (aw p.1))))
theorem Dt (p q r:DP) (hp:bj p=true) (hq:bj q=true) (hr:bj r=true):Fn prog 208 [⟨ax,p⟩,⟨ax,q⟩,⟨ax,r⟩] false [⟨.int,Fy p q r⟩]:=by
 obtain⟨p1,p2⟩:=and_eq_true_iff.1 (show (br p.1 && br p.2)=true from hp)
 obtain⟨q1,q2⟩:=and_eq_true_iff.1 (show (br q.1 && br q.2)=true from hq)
 obtain⟨r1,r2⟩:=and_eq_true_iff.1 (show (br r.1 && br r.2)=true from hr)
 have c1:=cZ (aw q.1) (aw p.1) (aI _) (aI _)
 have c2:=cZ (aw r.2) (aw p.2) (aI _) (aI _)
 have c3:=fA _ _ (dJ (aw q.1) (aw p.1)) (dJ (aw r.2) (aw p.2))
 have c4:=cZ (aw q.2) (aw p.2) (aI _) (aI _)
 have c5:=cZ (aw r.1) (aw p.1) (aI _) (aI _)
 have c6:=fA _ _ (dJ (aw q.2) (aw p.2)) (dJ (aw r.1) (aw p.1))
 have c7:=cZ (eT (bo (aw q.1) (aw p.1)) (bo (aw r.2) (aw p.2))) (eT (bo (aw q.2) (aw p.2)) (bo (aw r.1) (aw p.1))) (iH _ _) (iH _ _)
 have c8:=qB (bo (eT (bo (aw q.1) (aw p.1)) (bo (aw r.2) (aw p.2))) (eT (bo (aw q.2) (aw p.2)) (bo (aw r.1) (aw p.1))))
 rw[bg p1,bg q1] at c1
 rw[bg p2,bg r2] at c2
 rw[bg p2,bg q2] at c4
 rw[bg p1,bg r1] at c5
 unfold Fy
 refine fe func208 ntmps208 results208 fun hwf=>?_
 refine Cz c1 ?_
 refine cw c2 ?_
 refine Cz c3 ?_
 refine cw c4 ?_
 refine Cz c5 ?_
 refine cw c6 ?_
 refine Cz c7 ?_
 refine cw c8 ?_
 all_goals exact Fz
def ct (v:DV):DP:=(fE v.1,fE v.2)
theorem lZ (v:DV):Fn prog 58 [⟨an,v⟩] true [⟨ax,ct v⟩]:=by
 have c1:=dP v.1
 have c2:=dP v.2
 unfold ct
 refine fe func58 ntmps58 results58 fun hwf=>?_
 refine Cz c1 ?_
 refine cw c2 ?_
 all_goals exact Fz
theorem KW (v:DV):Fn prog 200 [⟨an,v⟩] true [⟨ax,ct v⟩]:=by
 have c1:=wm v.1
 have c2:=wm v.2
 unfold ct
 refine fe func200 ntmps200 results200 fun hwf=>?_
 refine Cz c1 ?_
 refine cw c2 ?_
 all_goals exact Fz
theorem J0 {n:Int} (h1:-1000<=n) (h2:n<=1000):br (fE n)=true:=by
 have ho:aY (some ((n:Int):Rat)):=by
  intro q hq; injection hq with hq; subst hq
  exact⟨le_trans (db (n:=n.natAbs) J) ae,le_trans (db (n:=1) ae) ae⟩
 rw[show fE n=oD (some ((n:Int):Rat)) from ij n]
 unfold br
 rw[gr ho]; rfl
theorem oz {v:DV} (h:bm v=true):bj (ct v)=true:=by
 obtain⟨b1,b2,b3,b4⟩:=eB h
 show (br (fE v.1) && br (fE v.2))=true
 rw[J0 b1 b2,J0 b3 b4]; rfl
def yi (l:List DV) (i:Nat):List DP:=(l.take i).map ct
theorem Q7 {l:List DV} {i:Nat} (h:i < l.length):yi l (i+1)=yi l i++[ct (nth (t:=an) l i)]:=by
 unfold yi
 rw[take_succ_eq_append_getElem h,aM h,map_append]
 rfl
theorem Ve {l:List DV} {i:Nat} (h:i<=l.length):(yi l i).length=i:=by
 unfold yi
 rw[length_map,length_take]; omega
theorem TG {l:List DV} {i:Nat} (h:l.length<=i):yi l i=l.map ct:=by
 unfold yi
 rw[take_of_length_le h]
theorem zz (l:List DV) (hn:l.length<=1048576):Fn prog 207 [⟨.slice an,l⟩] true [⟨.slice ax,l.map ct⟩]:=by
 refine fe func207 ntmps207 results207 fun hwf=>?_
 refine Nz ?_
 refine aF.intro _ _ _ (fun i:Nat=>⟨[(3,.row 0 0),(7,.sl an l),(8,.sc (.int .i64 l.length)),(9,.sc (.int .i64 i))],[(0,.row 42 ax 0 true (yi l i))]⟩) (fun i=>i<=l.length) (fun i=>l.length - i) 0 ?_ (zero_le _) ?_
 ·refine Wk.mk [] ?_
  refine Nz ?_
  try (and_intros<;>first|rfl|omega|exact⟨_,rfl⟩)
  all_goals (first|exact⟨rfl,rfl⟩|rfl)
 ·rintro i hi
  refine Nz ?_
  refine ao ?_ ?_<;>intro hA
  ·have hlt:i < l.length:=J
   have hml:=Ve (l:=l) (i:=i) J
   have e:=Q7 hlt
   have c2:=lZ (nth (t:=an) l i)
   refine Bz c2 ?_
   refine Tz hml ?_
   refine az.mk (i+1) ?_ J J
   rw[e]
   refine Wk.mk [] ?_
   refine Nz ?_
   try (and_intros<;>first|rfl|omega|exact⟨_,rfl⟩)
   all_goals (first|exact⟨J,rfl⟩|exact⟨rfl,rfl⟩)
  ·rw[TG J]
   try simp (maxSteps:=9^9) only[go_sem]
def uR (l:List DV) (p:DP):Nat->Int
 | 0=>1
 | i+1=>min (uR l p i) (Fy (ct (nth (t:=an) l i)) (ct (nth (t:=an) l (dB l.length i).toNat)) p)
theorem nn {l:List DV} {i:Nat} (h:i < l.length):nth (t:=ax) (l.map ct) i=ct (nth (t:=an) l i):=by
 rw[aM (t:=an) h,aM (t:=ax) (l:=l.map ct) (by rw[length_map]; exact h),getElem_map]
theorem La (l:List DV) (p:DP) (hl:∀v ∈ l,bm v=true) (hn:l.length<=1048576) (hp:bj p=true):Fn prog 135 [⟨.slice an,l⟩,⟨ax,p⟩] false [⟨.int,uR l p l.length⟩]:=by
 have c1:=zz l hn
 have hml:(l.map ct).length=l.length:=length_map ..
 refine fe func135 ntmps135 results135 fun hwf=>?_
 refine Bz c1 ?_
 refine Uz hml ?_
 refine aF.intro _ _ _ (fun i:Nat=>⟨[(3,.ptr 0 0),(5,.sl ax (l.map ct)),(6,.sc (.int .i64 (uR l p i))),(11,.sl ax (l.map ct)),(12,.sc (.int .i64 l.length)),(13,.sc (.int .i64 i))],[(0,.box (js ax p))]⟩) (fun i=>i<=l.length) (fun i=>l.length - i) 0 ?_ (zero_le _) ?_
 ·refine Wk.mk [] ?_
  refine Nz ?_
  try (and_intros<;>first|rfl|omega|exact⟨_,rfl⟩)
 ·rintro i hi
  refine Nz ?_
  refine ao ?_ ?_<;>intro hA
  ·have hlt:i < l.length:=J
   have hr:=iI (n:=l.length) (i:=i) J
   have hr2:(dB l.length i).toNat < l.length:=J
   have c2:=Dt (ct (nth (t:=an) l i)) (ct (nth (t:=an) l (dB l.length i).toNat)) p (oz (hl _ (aU hlt))) (oz (hl _ (aU hr2))) hp
   rw[<-nn hlt,<-nn hr2] at c2
   unfold dB at hr hr2 c2
   refine Tz hml ?_
   refine fR.pos J J ?_
   refine Tz hml ?_
   refine cw c2 ?_
   refine Sz ?_
   have hst:uR l p (i+1)=min (uR l p i) (Fy (nth (t:=ax) (l.map ct) i) (nth (t:=ax) (l.map ct) (((i:Int)+1) % (l.length:Int)).toNat) p):=by
    rw[nn hlt,nn hr2]; rfl
   refine az.mk (i+1) ?_ J J
   rw[hst]
   exact WK
  ·rw[show l.length=i from J]
   all_goals exact Fz
theorem Lr (y:Option Rat):iT none y=none:=rfl
theorem Lv (x:Option Rat):iT x none=none:=by cases x<;>rfl
theorem aam (p:Rat) {q:Rat} (h:q=0):iT (some p) (some q)=none:=if_pos h
theorem aas {p q:Rat} (h:q ≠ 0):iT (some p) (some q)=fZ (p / q):=by unfold iT; simp only; rw[if_neg h]
theorem tK (x y:Option Rat):aY (iT x y):=by
 unfold iT
 split
 ·split
  ·exact eu
  ·exact rh _
 ·exact eu
theorem aaO {q:Rat} (h:q.num ≠ 0):q⁻¹=_root_.mkRat (if q.num < 0 then -(q.den:Int) else q.den) q.num.natAbs:=by
 rw[Rat.inv_def]
 split
 ·rename_i hn
  rw[<-Rat.neg_divInt_neg,show -q.num=((q.num.natAbs:Nat):Int) from J,Rat.divInt_ofNat]
 ·rename_i hn
  rw[<-Rat.divInt_ofNat]
  congr 1
  omega
theorem aaz {p q:Rat} (h:q.num ≠ 0):p / q=_root_.mkRat (p.num * (if q.num < 0 then -(q.den:Int) else q.den)) (p.den * q.num.natAbs):=by
 rw[Rat.div_def,aaO h]
 conv=>lhs; rw[<-Rat.mkRat_self p]
 rw[Rat.mkRat_mul_mkRat]
theorem Jq {p q:Rat}:eV (!decide (decide (p.num * (q.den:Int) < 0)=decide (q.num < 0))) (p.num * (q.den:Int)).natAbs=p.num * (if q.num < 0 then -(q.den:Int) else q.den):=by
 have hd:=IU q
 unfold eV
 by_cases h1:p.num * (q.den:Int) < 0
 ·by_cases h2:q.num < 0
  ·simp only[h1,h2,decide_true,Bool.not_true,false_eq_true,if_false,if_true]
   rw[mul_neg]; omega
  ·simp only[h1,h2,decide_true,decide_false,Bool.true_eq_false,Bool.not_false,if_true,if_false]
   omega
 ·by_cases h2:q.num < 0
  ·simp only[h1,h2,decide_true,decide_false,false_eq_true,Bool.not_false,if_true]
   rw[mul_neg]; omega
  ·simp only[h1,h2,decide_false,decide_true,Bool.not_true,false_eq_true,if_false]
   omega
theorem UD {q:Rat} (h:q.num=0):q=0:=by
 rw[<-Rat.mkRat_self q,h,Rat.zero_mkRat]
theorem xQ (x y:Option Rat) (hx:aY x) (hy:aY y):Fn prog 255 [⟨au,oD x⟩,⟨au,oD y⟩] true [⟨au,oD (iT x y)⟩]:=by
 cases x with
 | none =>
  refine fe func255 ntmps255 results255 fun hwf=>?_
  refine Bz gy ?_
  try simp (maxSteps:=9^9) only[go_sem,Lr]
 | some p =>
  cases y with
  | none =>
   refine fe func255 ntmps255 results255 fun hwf=>?_
   refine Cz (bM p) ?_
   refine cw gy ?_
   refine Nz ?_
   try simp (maxSteps:=9^9) only[go_sem,Lv]
  | some q =>
   obtain⟨p1,p2⟩:=hx p rfl
   obtain⟨q1,q2⟩:=hy q rfl
   by_cases h0:q.num=0
   ·have e0:nl q.num.natAbs=0:=dz.2 J
    have d0:decide ((nl q.num.natAbs:Int)=0)=true:=aj J
    rw[aam p (UD h0)]
    refine fe func255 ntmps255 results255 fun hwf=>?_
    refine Cz (bM p) ?_
    refine cw (bM q) ?_
    refine Nz ?_
    try simp (maxSteps:=9^9) only[go_sem,d0]
   ·have hq0:q ≠ 0:=fun h=>h0 (by rw[h]; rfl)
    have d0:decide ((nl q.num.natAbs:Int)=0)=false:=ak (fun h=>h0 (by have:=dz.1 (show nl q.num.natAbs=0 from J); omega))
    have b1:=L1 p.num (q.den:Int)
    have b4:=pF p.den q.num.natAbs
    rw[Int.natAbs_natCast] at b1
    have hz:=pg (p.num * (if q.num < 0 then -(q.den:Int) else q.den)) (p.den * q.num.natAbs) (Nat.mul_ne_zero p.den_nz J) (by
     rw[<-Jq,LK]; omega) J
    rw[<-aaz h0] at hz
    rw[aas hq0]
    have c3:=nT p.num q.den J J
    have c4:=jY (Jq (p:=p) (q:=q))
    have c5:=mM p.den q.num.natAbs J J
    refine fe func255 ntmps255 results255 fun hwf=>?_
    refine Cz (bM p) ?_
    refine cw (bM q) ?_
    refine Nz ?_
    refine Tz d0 ?_
    refine cw c3 ?_
    refine Cz c4 ?_
    refine cw c5 ?_
    refine Sz ?_
    refine cw hz ?_
    all_goals exact Fz
def gP (p:DP):Prop:=∃x y,aY x/\aY y/\p=(oD x,oD y)
theorem vV {p:DP} (h:gP p):oD (aw p.1)=p.1:=by
 obtain⟨x,y,hx,hy,rfl⟩:=h
 show oD (aw (oD x))=oD x
 rw[gr hx]
theorem vC {p:DP} (h:gP p):oD (aw p.2)=p.2:=by
 obtain⟨x,y,hx,hy,rfl⟩:=h
 show oD (aw (oD y))=oD y
 rw[gr hy]
theorem abT {x y:Option Rat} (hx:aY x) (hy:aY y):gP (oD x,oD y):=⟨x,y,hx,hy,rfl⟩
theorem zk {p:DP} (h:bj p=true):gP p:=by
 obtain⟨p1,p2⟩:=and_eq_true_iff.1 (show (br p.1 && br p.2)=true from h)
 exact⟨aw p.1,aw p.2,aI _,aI _,by rw[bg p1,bg p2]⟩
def xM (p q:DP):Option Rat:=bX (eT (bo (aw p.1) (aw q.1)) (bo (aw p.1) (aw q.1))) (eT (bo (aw p.2) (aw q.2)) (bo (aw p.2) (aw q.2)))
theorem L9 (p q:DP):aY (xM p q):=fS _ _
theorem lH (p q:DP) (hp:gP p) (hq:gP q):Fn prog 334 [⟨ax,p⟩,⟨ax,q⟩] true [⟨au,oD (xM p q)⟩]:=by
 have c1:=cZ (aw p.1) (aw q.1) (aI _) (aI _)
 have c2:=cZ (aw p.2) (aw q.2) (aI _) (aI _)
 rw[vV hp,vV hq] at c1
 rw[vC hp,vC hq] at c2
 have c3:=fA _ _ (dJ (aw p.1) (aw q.1)) (dJ (aw p.1) (aw q.1))
 have c4:=fA _ _ (dJ (aw p.2) (aw q.2)) (dJ (aw p.2) (aw q.2))
 have c5:=er _ _ (iH (bo (aw p.1) (aw q.1)) (bo (aw p.1) (aw q.1))) (iH (bo (aw p.2) (aw q.2)) (bo (aw p.2) (aw q.2)))
 unfold xM
 refine fe func334 ntmps334 results334 fun hwf=>?_
 refine Cz c1 ?_
 refine cw c2 ?_
 refine Cz c3 ?_
 refine cw c4 ?_
 refine Sz ?_
 refine cw c5 ?_
 all_goals exact Fz
def BX (a b c:DP):Option Rat:=bX (eT (bo (aw b.1) (aw a.1)) (bo (aw c.1) (aw a.1))) (eT (bo (aw b.2) (aw a.2)) (bo (aw c.2) (aw a.2)))
theorem XH (a b c:DP):aY (BX a b c):=fS _ _
theorem Tv (a b c:DP) (ha:gP a) (hb:gP b) (hc:gP c):Fn prog 335 [⟨ax,a⟩,⟨ax,b⟩,⟨ax,c⟩] true [⟨au,oD (BX a b c)⟩]:=by
 have c1:=cZ (aw b.1) (aw a.1) (aI _) (aI _)
 have c2:=cZ (aw c.1) (aw a.1) (aI _) (aI _)
 have c3:=cZ (aw b.2) (aw a.2) (aI _) (aI _)
 have c4:=cZ (aw c.2) (aw a.2) (aI _) (aI _)
 rw[vV hb,vV ha] at c1
 rw[vV hc,vV ha] at c2
 rw[vC hb,vC ha] at c3
 rw[vC hc,vC ha] at c4
 have c5:=fA _ _ (dJ (aw b.1) (aw a.1)) (dJ (aw c.1) (aw a.1))
 have c6:=fA _ _ (dJ (aw b.2) (aw a.2)) (dJ (aw c.2) (aw a.2))
 have c7:=er _ _ (iH (bo (aw b.1) (aw a.1)) (bo (aw c.1) (aw a.1))) (iH (bo (aw b.2) (aw a.2)) (bo (aw c.2) (aw a.2)))
 unfold BX
 refine fe func335 ntmps335 results335 fun hwf=>?_
 refine Cz c1 ?_
 refine cw c2 ?_
 refine Cz c5 ?_
 refine cw c3 ?_
 refine Cz c4 ?_
 refine cw c6 ?_
 refine Sz ?_
 refine cw c7 ?_
 all_goals exact Fz
theorem uZ {t:Ty} {l:List t.den} {i:Nat} (h:i < l.length):nth l i ∈ l:=by rw[aM h]; exact getElem_mem h
theorem zu (F:FuncId) (A:Ty) (x:A.den) (p:DV->Bool) (l:List DV) (hF:∀y ∈ l,Fn prog F (⟨an,y⟩ :: kx A x) false [⟨.bool,p y⟩]):Fn prog 248 [⟨.slice an,l⟩,⟨.ext (.ie F) A,some x⟩] false [⟨.int,jL (t:=an) p l⟩]:=by
 refine fe func248 ntmps248 results248 fun hwf=>?_
 have hl:l.length<=9223372036854775807:=(hwf ⟨.slice an,l⟩ ah).1
 refine Nz ?_
 refine aF.intro _ _ _ (fun i:Nat=>⟨[(0,.sl an l),(1,.ex (.ie F) A (some x)),(7,.sc (.int .i64 l.length)),(8,.sc (.int .i64 i))],[]⟩) (fun i=>∀j < i,j < l.length->p (nth (t:=an) l j)=false) (fun i=>l.length - i) 0 ?_ (fun j h=>by simp at h) ?_
 ·exact WK
 ·rintro i h2
  refine Nz ?_
  refine ao ?_ ?_<;>intro h3
  ·have c1:=hF (nth (t:=an) l i) (uZ (t:=an) J)
   refine Sz ?_
   refine qu.mk (c1) ?_
   refine Nz ?_
   refine ig (fun h4=>?_) (fun h4=>?_)
   ·refine Nz ?_
    exact (jy J h4 (fun j hj=>h2 j hj J)).symm
   ·refine Sz ?_
    refine az.mk (i+1) ?_ (fun j hj hl=>?_) J
    ·exact WK
    ·by_cases hj2:j < i
     ·exact h2 j hj2 hl
     ·rw[show j=i from J]; exact h4
  ·refine Nz ?_
   exact (fP fun j hj=>h2 j J hj).symm
theorem vm (F:FuncId) (A:Ty) (x:A.den) (p:DV->Bool) (l:List DV) (hF:∀y ∈ l,Fn prog F (⟨an,y⟩ :: kx A x) false [⟨.bool,p y⟩]):Fn prog 179 [⟨.slice an,l⟩,⟨.ext (.ie F) A,some x⟩] false [⟨.bool,l.any p⟩]:=by
 have c1:=zu F A x p l hF
 refine fe func179 ntmps179 results179 fun hwf=>?_
 refine Bz c1 ?_
 exact lq
theorem QG (k:Int) (hk:0<=k/\k<=1000000) (v:DV):Fn prog 180 [⟨an,v⟩,⟨.ext .ref .int,some k⟩] false [⟨.bool,!fJ k v⟩]:=by
 have c1:=dH v.1 (-k) k
 have c2:=dH v.2 (-k) k
 unfold fJ
 cases h:decide (-k<=v.1/\v.1<=k)<;>rw[h] at c1
 ·refine fe func180 ntmps180 results180 fun hwf=>?_
  refine Sz ?_
  refine cw c1 ?_
  all_goals exact Fz
 ·refine fe func180 ntmps180 results180 fun hwf=>?_
  refine Cz c1 ?_
  refine cw c2 ?_
  all_goals exact Fz
theorem AD (k:Int) (hk:0<=k/\k<=1000000) (l:List DV):Fn prog 110 [⟨.int,k⟩,⟨.slice an,l⟩] false [⟨.bool,!(l.any fun v=>!fJ k v)⟩]:=by
 have c1:=vm 180 (.ext .ref .int) (some k) (fun v=>!fJ k v) l (fun y _=>QG k hk y)
 refine fe func110 ntmps110 results110 fun hwf=>?_
 refine Sz ?_
 refine jl.mk (c1) ?_
 all_goals exact Fz
def jx (k:Int) (l:List DV):Bool:=!(l.any fun v=>!fJ k v)
theorem Y0 {k:Int} {l:List DV} (h:∀i,i < l.length->fJ k (nth (t:=an) l i)=true):jx k l=true:=by
 unfold jx
 rw[not_eq_true',any_eq_false]
 intro v hv
 obtain⟨i,hi,rfl⟩:=getElem_of_mem hv
 have:=h i hi
 rw[aM hi] at this
 rw[this]; decide
def ql (l:List DV) (k:Int):Bool:=decide ((l.length:Int)<=5) && (dD l && jx k l)
theorem Dd (l:List DV) (k:Int) (hk:0<=k/\k<=1000000):Fn prog 111 [⟨.slice an,l⟩,⟨.int,k⟩] false [⟨.bool,ql l k⟩]:=by
 have c1:=fm l
 unfold ql
 cases h1:decide ((l.length:Int)<=5)
 ·refine fe func111 ntmps111 results111 fun hwf=>?_
  try simp (maxSteps:=9^9) only[go_sem,h1]
 ·cases h2:dD l<;>rw[h2] at c1
  ·refine fe func111 ntmps111 results111 fun hwf=>?_
   refine Tz h1 ?_
   refine cw c1 ?_
   try simp (maxSteps:=9^9) only[go_sem]
  ·have c2:Fn prog 110 [⟨.int,k⟩,⟨.slice an,l⟩] false [⟨.bool,jx k l⟩]:=AD k hk l
   refine fe func111 ntmps111 results111 fun hwf=>?_
   refine Tz h1 ?_
   refine cw c1 ?_
   refine Sz ?_
   refine cw c2 ?_
   try simp (maxSteps:=9^9) only[go_sem]
end DW

section
open Go.RowKit
theorem sN (va vb:Value) (a b:GN) (w:World) (ha:Has GF w [va] a) (hb:Has GF w [vb] b) :
  Calls prog 97 #[va,vb] w (Post (Ko a b w)):=by
 obtain⟨aa,ca,rfl,la,ma,ga⟩:=ha.elems
 obtain⟨ab,cb,rfl,lb,mb,gb⟩:=hb.elems
 unfold maxLen at ma mb
 have HA:=Lib.hid ga; have HB:=Lib.hid gb; clear ga gb ha hb
 by_cases hl:a.length=b.length
 rotate_left
 ·have hn:((a.length:Int) != (b.length:Int))=true:=by simp; omega
  have HL:=Lib.hid hl; clear hl
  go_enter func97,ntmps97
  go_wp2
  go_ret
  exact⟨_,rfl,congrArg Value.bool (cD fun h=>HL.out (by rw[h])).symm,Below.refl _ _⟩
 have hn:((a.length:Int) != (b.length:Int))=false:=by simp; omega
 have HL:=Lib.hid hl; clear hl
 go_enter func97,ntmps97
 go_wp2
 go_loopw [13] (fun i wr=>∃k:Nat,k<=a.length/\i=.int .i64 k/\a.take k=b.take k/\Below w.heap.size w wr) (fun i _=>a.length - (intOf i).toNat)
 case atStart=>exact⟨0,zero_le _,rfl,rfl,Below.refl _ _⟩
 case round =>
  obtain⟨k,hk,rfl,htk,hbw⟩:=hrel
  have HT:=Lib.hid htk; clear htk
  by_cases hlt:k < a.length
  rotate_left
  ·go_wp2
   go_ret
   exact⟨_,rfl,congrArg Value.bool (gD (by have h1:=HT.out; have h2:=HL.out; rwa [take_of_length_le J,take_of_length_le J] at h1)).symm,hbw⟩
  have hlt':k < b.length:=by have:=HL.out; omega
  obtain⟨b1,o1,cs1,rfl,hbl,hx,hcs⟩:=HA.out k hlt
  obtain⟨b2,o2,cs2,rfl,hbl2,hy,hds⟩:=HB.out k hlt'
  obtain⟨c0,rfl⟩:=Xl hx.len
  obtain⟨d0,rfl⟩:=Xl hy.len
  obtain rfl:=hx.int.1
  obtain rfl:=hy.int.1
  have g0:wr.cell? ⟨b1,o1+k,none⟩=some (.int .i64 a[k]):=(hbw.cell (p:=⟨b1,_,none⟩) hbl).trans (by simpa [Rp.int] using hcs 0 _ rfl)
  have e0:wr.cell? ⟨b2,o2+k,none⟩=some (.int .i64 b[k]):=(hbw.cell (p:=⟨b2,_,none⟩) hbl2).trans (by simpa [Rp.int] using hds 0 _ rfl)
  clear hcs hds hx hy
  by_cases hab:a[k]=b[k]
  ·have hn:(a[k] != b[k])=false:=by simp[hab]
   have HAB:=Lib.hid hab; clear hab
   go_wp2
   go_quiet (fail)
   go_wp2
   go_roundw
   case rel=>exact⟨k+1,J,by go_num,by rw[take_succ_eq_append_getElem hlt,take_succ_eq_append_getElem hlt',HT.out,HAB.out],hbw.drewN _⟩
   case measure=>simp[intOf]; omega
  ·have hn:(a[k] != b[k])=true:=by simp[hab]
   have HAB:=Lib.hid hab; clear hab
   go_wp2
   go_quiet (fail)
   go_wp2
   go_ret
   exact⟨_,rfl,congrArg Value.bool (cD fun h=>HAB.out (by subst h; rfl)).symm,hbw.drewN _⟩
theorem rH (c0 c1 c2 d0 d1 d2:Value) (x y:Pk) (w:World) (hx:Has Ox w [c0,c1,c2] x) (hy:Has Ox w [d0,d1,d2] y) :
  Calls prog 38 #[.agg #[c0,c1,c2],.agg #[d0,d1,d2]] w (Post (Ko x y w)):=by
 obtain⟨hx0,hx1⟩:=hx.split [c0,c1] [c2] rfl
 obtain⟨hx00,hx01⟩:=hx0.split [c0] [c1] rfl
 obtain⟨hy0,hy1⟩:=hy.split [d0,d1] [d2] rfl
 obtain⟨hy00,hy01⟩:=hy0.split [d0] [d1] rfl
 obtain rfl:=hx00.bool
 obtain rfl:=hy00.bool
 have HX1:=Lib.hid hx1; have HX2:=Lib.hid hx01; have HY1:=Lib.hid hy1; have HY2:=Lib.hid hy01
 clear hx hy hx0 hx1 hy0 hy1 hx00 hx01 hy00 hy01
 have hb0:=((Below.refl w.heap.size w).alloc (le_refl _) (Obj.cells #[.bool x.1.1,c1,c2] 40)).alloc (by simp<;>omega) (Obj.cells #[.bool y.1.1,d1,d2] 40)
 by_cases he0:x.1.1=y.1.1
 rotate_left
 ·have hn:(x.1.1 == y.1.1)=false:=by simp[he0]
  have HN:=Lib.hid he0; clear he0
  go_enter func38,ntmps38
  go_wp2
  go_ret
  exact⟨_,rfl,congrArg Value.bool (cD fun h=>HN.out (by rw[h])).symm,hb0⟩
 have hn0:(x.1.1 == y.1.1)=true:=by simp[he0]
 have HE0:=Lib.hid he0; clear he0
 go_enter func38,ntmps38
 go_wp2_with fail
 refine (sN _ _ _ _ _ (HX2.out.below hb0) (HY2.out.below hb0)).mono ?_
 rintro e w1 ⟨v,rfl,rfl,hbx1⟩
 have hb1:=Below.up hb0 hbx1 hb0.size
 obtain⟨hc1,hf1⟩:=OF hbx1
 by_cases he1:x.1.2=y.1.2
 rotate_left
 ·rw[cD he1]
  have HN:=Lib.hid he1; clear he1
  go_wp2
  go_ret
  exact⟨_,rfl,congrArg Value.bool (cD fun h=>HN.out (by rw[h])).symm,hb1⟩
 rw[gD he1]
 have HE1:=Lib.hid he1; clear he1
 go_wp2_with fail
 refine (sN _ _ _ _ _ (HX1.out.below hb1) (HY1.out.below hb1)).mono ?_
 rintro e w2 ⟨v,rfl,rfl,hbx2⟩
 have hb2:=Below.up hb1 hbx2 hb1.size
 by_cases he2:x.2=y.2
 rotate_left
 ·rw[cD he2]
  have HN:=Lib.hid he2; clear he2
  go_wp2
  go_ret
  exact⟨_,rfl,congrArg Value.bool (cD fun h=>HN.out (by rw[h])).symm,hb2⟩
 rw[gD he2]
 have HE2:=Lib.hid he2; clear he2
 go_wp2
 go_ret
 exact⟨_,rfl,congrArg Value.bool (gD (Prod.ext (Prod.ext HE0.out HE1.out) HE2.out)).symm,hb2⟩
theorem zw (c0 c1 c2 c3 c4 c5 d0 d1 d2 d3 d4 d5:Value) (x y:II) (w:World) (hx:Has G7 w [c0,c1,c2,c3,c4,c5] x) (hy:Has G7 w [d0,d1,d2,d3,d4,d5] y) :
  Calls prog 37 #[.agg #[c0,c1,c2,c3,c4,c5],.agg #[d0,d1,d2,d3,d4,d5]] w (Post (Ko x y w)):=by
 obtain⟨hx0,hx1⟩:=hx.split [c0,c1,c2] [c3,c4,c5] rfl
 obtain⟨hy0,hy1⟩:=hy.split [d0,d1,d2] [d3,d4,d5] rfl
 have HX0:=Lib.hid hx0; have HX1:=Lib.hid hx1; have HY0:=Lib.hid hy0; have HY1:=Lib.hid hy1
 clear hx hy hx0 hx1 hy0 hy1
 have hb0:=((Below.refl w.heap.size w).alloc (le_refl _) (Obj.cells #[c0,c1,c2,c3,c4,c5] 42)).alloc (by simp<;>omega) (Obj.cells #[d0,d1,d2,d3,d4,d5] 42)
 go_enter func37,ntmps37
 go_wp2_with fail
 refine (rH _ _ _ _ _ _ _ _ _ (HX0.out.below hb0) (HY0.out.below hb0)).mono ?_
 rintro e w1 ⟨v,rfl,rfl,hbx1⟩
 have hb1:=Below.up hb0 hbx1 hb0.size
 obtain⟨hc1,hf1⟩:=OF hbx1
 by_cases he1:x.1=y.1
 rotate_left
 ·rw[cD he1]
  have HN:=Lib.hid he1; clear he1
  go_wp2
  go_ret
  exact⟨_,rfl,congrArg Value.bool (cD fun h=>HN.out (by rw[h])).symm,hb1⟩
 rw[gD he1]
 have HE1:=Lib.hid he1; clear he1
 go_wp2_with fail
 refine (rH _ _ _ _ _ _ _ _ _ (HX1.out.below hb1) (HY1.out.below hb1)).mono ?_
 rintro e w2 ⟨v,rfl,rfl,hbx2⟩
 have hb2:=Below.up hb1 hbx2 hb1.size
 by_cases he2:x.2=y.2
 rotate_left
 ·rw[cD he2]
  have HN:=Lib.hid he2; clear he2
  go_wp2
  go_ret
  exact⟨_,rfl,congrArg Value.bool (cD fun h=>HN.out (by rw[h])).symm,hb2⟩
 rw[gD he2]
 have HE2:=Lib.hid he2; clear he2
 go_wp2
 go_ret
 exact⟨_,rfl,congrArg Value.bool (gD (Prod.ext HE1.out HE2.out)).symm,hb2⟩
end

section
open Go.RowKit
theorem XN:(Tryz.prog.info? 3).map (fun i=>(i.zero,i.size,i.bytes))=some (some (.int .i64 0),1,8):=by kernel_rfl
end

section
open Go.RowKit
end

namespace DW
open Go.RowKit
theorem zO (p q:DP):Fn prog 37 [⟨ax,p⟩,⟨ax,q⟩] false [⟨.bool,l6 p q⟩]:=by
 refine Fn.ofEq (enters func37 rfl rfl) fun w v cs u ds hp hx hq hy=>?_
 obtain rfl:=S9 rfl hp
 obtain⟨c0,c1,c2,c3,c4,c5,rfl⟩:=PA hx.len
 obtain rfl:=S9 rfl hq
 obtain⟨d0,d1,d2,d3,d4,d5,rfl⟩:=PA hy.len
 exact zw _ _ _ _ _ _ _ _ _ _ _ _ p q w hx hy
def Ke:Option Rat:=some (((1:Int)):Rat)
def sX:Option Rat:=some (((0:Int)):Rat)
theorem ZF:fE 1=oD Ke:=ij 1
theorem SK:fE 0=oD sX:=ij 0
theorem vX {n:Int} (h:n.natAbs<=1000000):aY (some ((n:Int):Rat)):=by
 intro q hq; injection hq with hq; subst hq
 exact⟨le_trans (db (n:=n.natAbs) J) ae,le_trans (db (n:=1) ae) ae⟩
theorem N1:aY Ke:=vX ae
theorem vK:aY sX:=vX ae
theorem VE {p q:Rat} (h1:p < q):¬ q < p:=fun h=>absurd (Rat.le_of_lt h) (not_le.2 h1)
theorem FF (x y:Option Rat):bP x y=bP y x:=by
 cases x with
 | none=>cases y<;>rfl
 | some p =>
  cases y with
  | none=>rfl
  | some q =>
   show (if eI p q<=0 then some p else some q)=(if eI q p<=0 then some q else some p)
   unfold eI
   by_cases h1:p < q
   ·have h2:¬ q < p:=VE h1
    simp[h1,h2]
   ·by_cases h2:q < p
    ·simp[h1,h2]
    ·simp[h1,h2]
     exact Rat.le_antisymm (not_lt.1 h2) (not_lt.1 h1)
def tD (p a b:DP):Option Rat:=bP Ke (iN sX (iT (BX a p b) (xM a b)))
def GX (a b:DP) (t:Option Rat):DP:=(oD (bX (aw a.1) (eT t (bo (aw b.1) (aw a.1)))),oD (bX (aw a.2) (eT t (bo (aw b.2) (aw a.2)))))
def A2 (p a b:DP):Option Rat:=if l6 a b then xM p a else xM p (GX a b (tD p a b))
theorem VJ (p a b:DP):aY (A2 p a b):=by unfold A2; split<;>exact L9 _ _
theorem SD (p a b:DP):aY (tD p a b):=lp N1 (qW vK (tK _ _))
theorem Zi (a b:DP) (t:Option Rat):gP (GX a b t):=abT (fS _ _) (fS _ _)
theorem x8 (p a b:DP) (hp:gP p) (ha:gP a) (hb:gP b):Fn prog 297 [⟨ax,p⟩,⟨ax,a⟩,⟨ax,b⟩] true [⟨au,oD (A2 p a b)⟩]:=by
 have c0:=zO a b
 unfold A2
 cases h:l6 a b<;>rw[h] at c0
 ·rw[if_neg ae]
  have c1:=Tv a p b ha hp hb
  have c2:=lH a b ha hb
  have c3:=xQ (BX a p b) (xM a b) (XH _ _ _) (L9 _ _)
  have c4:=dP 1
  have c5:=dP 0
  rw[ZF] at c4
  rw[SK] at c5
  have c6:=pH sX (iT (BX a p b) (xM a b)) vK (tK _ _)
  have c7:=kQ Ke (iN sX (iT (BX a p b) (xM a b))) N1 (qW vK (tK _ _))
  have e7:bP Ke (iN sX (iT (BX a p b) (xM a b)))=tD p a b:=rfl
  rw[e7] at c7
  have c8:=cZ (aw b.1) (aw a.1) (aI _) (aI _)
  have c9:=fA (tD p a b) (bo (aw b.1) (aw a.1)) (SD _ _ _) (dJ _ _)
  have c10:=er (aw a.1) (eT (tD p a b) (bo (aw b.1) (aw a.1))) (aI _) (iH _ _)
  have c11:=cZ (aw b.2) (aw a.2) (aI _) (aI _)
  have c12:=fA (tD p a b) (bo (aw b.2) (aw a.2)) (SD _ _ _) (dJ _ _)
  have c13:=er (aw a.2) (eT (tD p a b) (bo (aw b.2) (aw a.2))) (aI _) (iH _ _)
  rw[vV ha,vV hb] at c8
  rw[vV ha] at c10
  rw[vC ha,vC hb] at c11
  rw[vC ha] at c13
  have c14:=lH p (GX a b (tD p a b)) hp (Zi _ _ _)
  unfold GX at c14 ⊢
  generalize tD p a b=t at c7 c9 c10 c12 c13 c14 ⊢
  generalize iT (BX a p b) (xM a b)=dv at c3 c6 c7
  refine fe func297 ntmps297 results297 fun hwf=>?_
  refine Cz c0 ?_
  refine cw c1 ?_
  refine Cz c2 ?_
  refine cw c3 ?_
  refine Cz c4 ?_
  refine cw c5 ?_
  refine Cz c6 ?_
  refine cw c7 ?_
  refine Cz c8 ?_
  refine cw c9 ?_
  refine Cz c10 ?_
  refine cw c11 ?_
  refine Cz c12 ?_
  refine cw c13 ?_
  refine Sz ?_
  refine cw c14 ?_
  all_goals exact Fz
 ·rw[if_pos rfl]
  have c1:=lH p a hp ha
  refine fe func297 ntmps297 results297 fun hwf=>?_
  refine Cz c0 ?_
  refine cw c1 ?_
  all_goals exact Fz
@[go_sem] theorem adk:kV prog 226=some 48:=by kernel_rfl
@[go_sem] theorem ac6:kV prog 231=some 112:=by kernel_rfl
@[go_sem] theorem adg:kV prog 238=some 224:=by kernel_rfl
@[go_sem] theorem adf:kV prog 170=some 336:=by kernel_rfl
@[go_sem] theorem ada:kV prog 172=some 168:=by kernel_rfl
@[go_sem] theorem acS:kV prog 118=some 16:=by kernel_rfl
@[go_sem] theorem aci:kV prog 60=some 168:=by kernel_rfl
abbrev DE:=aK.den
def HR (a b:Int):Bool:=decide (a < b)
theorem abt {a b:Int} (h:a < b):HR a b=true:=aj h
theorem abV {a b:Int} (h:HR a b=true):a < b:=of_decide_eq_true h
def vE (e:DE):Bool:=bm e.1 && bm e.2.1 && HR e.1.1 e.2.1.1
theorem Xw {a b:DV} {n:Int} {lw:Bool} (h1:bm a=true) (h2:bm b=true) (h3:@LT.lt Int _ a.1 b.1):vE (a,b,n,lw)=true:=by
 show (bm a && bm b && HR a.1 b.1)=true
 rw[h1,h2,abt h3]; rfl
theorem HJ {a b:DV} {n:Int} {lw:Bool} (h:vE (a,b,n,lw)=true):bm a=true/\bm b=true/\@LT.lt Int _ a.1 b.1:=by
 have h:(bm a && bm b && HR a.1 b.1)=true:=h
 rw[Bool.and_eq_true,Bool.and_eq_true] at h
 exact⟨h.1.1,h.1.2,abV h.2⟩
theorem oR (e:DE):Fn prog 253 [⟨aK,e⟩] false [⟨.bool,vE e⟩]:=by
 obtain⟨a,b,n,lw⟩:=e
 have c1:=nQ [a,b]
 have e1:(!([a,b].any fun v=>!bm v))=(bm a && bm b):=by simp[List.any]
 rw[e1] at c1
 show Fn _ _ _ _ [⟨.bool,bm a && bm b && HR a.1 b.1⟩]
 cases h1:(bm a && bm b)
 ·rw[h1] at c1
  refine fe func253 ntmps253 results253 fun hwf=>?_
  refine Sz ?_
  refine cw c1 ?_
  all_goals exact Fz
 ·rw[h1] at c1
  unfold HR
  refine fe func253 ntmps253 results253 fun hwf=>?_
  refine Sz ?_
  refine cw c1 ?_
  all_goals exact Fz
def aV (n:Int):Option Rat:=some ((n:Int):Rat)
theorem fw (n:Int):Fn prog 81 [⟨.int,n⟩] true [⟨au,oD (aV n)⟩]:=by
 have h:=dP n
 rwa [show fE n=oD (aV n) from ij n] at h
theorem dN {n:Int} (h:n.natAbs<=1000000):aY (aV n):=by
 exact vX h
def jv (e:DE):Option Rat:=fZ (((e.2.1.2 - e.1.2:Int):Rat) / ((e.2.1.1 - e.1.1:Int):Rat))
theorem B5 (e:DE):aY (jv e):=rh _
def kY (e:DE) (x:Option Rat):Option Rat:=bX (aV e.1.2) (eT (jv e) (bo x (aV e.1.1)))
theorem uA (e:DE) (x:Option Rat):aY (kY e x):=fS _ _
def nZ (e:DE) (lo hi:Option Rat):Bool:=decide (bG (aV e.1.1) lo<=0) && decide (0<=bG (aV e.2.1.1) hi)
theorem vI (e:DE) (h:vE e=true):Fn prog 254 [⟨aK,e⟩] true [⟨au,oD (jv e)⟩]:=by
 obtain⟨a,b,n,lw⟩:=e
 obtain⟨h1,h2,h3⟩:=HJ h
 obtain⟨a1,a2,a3,a4⟩:=eB h1
 obtain⟨b1,b2,b3,b4⟩:=eB h2
 have c1:=yb (b.2 - a.2) (b.1 - a.1) J J
 unfold jv
 refine fe func254 ntmps254 results254 fun hwf=>?_
 refine Sz ?_
 refine cw c1 ?_
 all_goals exact Fz
theorem lO (e:DE) (h:vE e=true) (x:Option Rat) (hx:aY x):Fn prog 256 [⟨aK,e⟩,⟨au,oD x⟩] true [⟨au,oD (kY e x)⟩]:=by
 have c0:=vI e h
 have k0:=B5 e
 unfold kY
 generalize jv e=sl at c0 k0 ⊢
 obtain⟨a,b,n,lw⟩:=e
 obtain⟨h1,h2,h3⟩:=HJ h
 obtain⟨a1,a2,a3,a4⟩:=eB h1
 have c1:=fw a.2
 have c2:=fw a.1
 have c3:=cZ x (aV a.1) hx (dN J)
 have c4:=fA sl (bo x (aV a.1)) k0 (dJ _ _)
 have c5:=er (aV a.2) (eT sl (bo x (aV a.1))) (dN J) (iH _ _)
 refine fe func256 ntmps256 results256 fun hwf=>?_
 refine Cz c1 ?_
 refine cw c0 ?_
 refine Cz c2 ?_
 refine cw c3 ?_
 refine Cz c4 ?_
 refine cw c5 ?_
 all_goals exact Fz
theorem rA (e:DE) (h:vE e=true) (x y:Option Rat) (hx:aY x) (hy:aY y):Fn prog 257 [⟨aK,e⟩,⟨au,oD x⟩,⟨au,oD y⟩] false [⟨.bool,nZ e x y⟩]:=by
 obtain⟨a,b,n,lw⟩:=e
 obtain⟨h1,h2,h3⟩:=HJ h
 obtain⟨a1,a2,a3,a4⟩:=eB h1
 obtain⟨b1,b2,b3,b4⟩:=eB h2
 have c1:=fw a.1
 have c2:=fw b.1
 have c3:=bR (aV a.1) x (dN J) hx
 have c4:=bR (aV b.1) y (dN J) hy
 unfold nZ
 dsimp only
 by_cases d:bG (aV a.1) x<=0
 ·have d':=aj d
  refine fe func257 ntmps257 results257 fun hwf=>?_
  refine Cz c1 ?_
  refine cw c3 ?_
  refine Nz ?_
  refine Tz d' ?_
  refine cw c2 ?_
  refine Sz ?_
  refine cw c4 ?_
  all_goals exact Fz
 ·have d':=ak d
  refine fe func257 ntmps257 results257 fun hwf=>?_
  refine Cz c1 ?_
  refine cw c3 ?_
  refine Nz ?_
  exact Gz d'
def FH (l:List DV) (area:Int) (i:Nat):List DE :=
 let a:=nth (t:=an) l i
 let b:=nth (t:=an) l ((i+1) % l.length)
 if a.1 < b.1 then [(a,b,area,true)] else if b.1 < a.1 then [(b,a,area,false)] else []
def wv (l:List DV) (area:Int):Nat->List DE
 | 0=>[]
 | i+1=>wv l area i++FH l area i
def px (l:List DV) (area:Int):List DE:=wv l area l.length
theorem Z1 {l:List DV} {i:Nat}:(((i:Int)+1) % (l.length:Int)).toNat=(i+1) % l.length:=by
 have:((i:Int)+1) % (l.length:Int)=(((i+1) % l.length:Nat):Int):=by rw[Int.natCast_emod]; rfl
 rw[this]; rfl
theorem abl {l:List DV} {area:Int} {i:Nat} (h:(nth (t:=an) l i).1 < (nth (t:=an) l ((i+1) % l.length)).1):FH l area i=[(nth (t:=an) l i,nth (t:=an) l ((i+1) % l.length),area,true)]:=if_pos h
theorem abJ {l:List DV} {area:Int} {i:Nat} (h:¬ (nth (t:=an) l i).1 < (nth (t:=an) l ((i+1) % l.length)).1) (h2:(nth (t:=an) l i).1 > (nth (t:=an) l ((i+1) % l.length)).1):FH l area i=[(nth (t:=an) l ((i+1) % l.length),nth (t:=an) l i,area,false)]:=(if_neg h).trans (if_pos h2)
theorem abY {l:List DV} {area:Int} {i:Nat} (h:¬ (nth (t:=an) l i).1 < (nth (t:=an) l ((i+1) % l.length)).1) (h2:¬ (nth (t:=an) l i).1 > (nth (t:=an) l ((i+1) % l.length)).1):FH l area i=[]:=(if_neg h).trans (if_neg h2)
theorem Ya (l:List DV) (area:Int) (i:Nat):(FH l area i).length<=1:=by
 unfold FH
 simp only
 split
 ·exact le_refl _
 ·split
  ·exact le_refl _
  ·exact zero_le _
theorem EJ (l:List DV) (area:Int):∀i,(wv l area i).length<=i
 | 0=>le_refl _
 | i+1=>by
  have:=EJ l area i
  have:=Ya l area i
  rw[wv,length_append]; omega
theorem tN (l:List DV) (area:Int):(px l area).length<=l.length:=EJ l area l.length
theorem Ro {l:List DV} {area:Int} (h:∀v ∈ l,bm v=true):∀i,i<=l.length->∀e ∈ wv l area i,vE e=true
 | 0,_,e,he=>by cases he
 | i+1,hi,e,he=>by
  rw[wv] at he
  rcases mem_append.1 he with he|he
  ·exact Ro h i J e he
  ·have ha:=h _ (aU (i:=i) J)
   have hb:=h _ (aU (l:=l) (i:=(i+1) % l.length) (mod_lt _ J))
   unfold FH at he
   simp only at he
   split at he
   ·rename_i h1; rw[mem_singleton.1 he]; exact Xw ha hb h1
   ·split at he
    ·rename_i h1; rw[mem_singleton.1 he]; exact Xw hb ha h1
    ·cases he
theorem JU {l:List DV} {area:Int} (h:∀v ∈ l,bm v=true):∀e ∈ px l area,vE e=true:=Ro h _ (le_refl _)
theorem vg (l:List DV) (area:Int) (hn:l.length<=1000000):Fn prog 252 [⟨.slice an,l⟩,⟨.int,area⟩] true [⟨.slice aK,px l area⟩]:=by
 refine fe func252 ntmps252 results252 fun hwf=>?_
 have hl:l.length<=9223372036854775807:=(hwf ⟨.slice an,l⟩ ah).1
 refine Nz ?_
 refine aF.intro _ _ _ (fun i:Nat=>⟨[(0,.sl an l),(1,.sc (.int .i64 area)),(5,.row 0 0),(10,.sl an l),(11,.sc (.int .i64 l.length)),(12,.sc (.int .i64 i))],[(0,.row 226 aK 0 true (wv l area i))]⟩) (fun i=>i<=l.length) (fun i=>l.length - i) 0 ?_ (zero_le _) ?_
 ·exact WK
 ·rintro i hi
  have hlen:=EJ l area i
  refine Nz ?_
  refine ao ?_ ?_<;>intro hA
  ·have hlt:i < l.length:=J
   have hN:=Z1 (l:=l) (i:=i)
   have hm:=mod_lt (i+1) (show 0 < l.length from J)
   have hm2:0<=((i:Int)+1) % (l.length:Int):=Int.emod_nonneg _ J
   have hm3:((i:Int)+1) % (l.length:Int) < l.length:=Int.emod_lt_of_pos _ J
   refine Sz ?_
   refine fR.pos J J ?_
   refine Tz hN ?_
   refine ao (fun h1=>?_) (fun h1=>?_)
   ·have e:=abl (area:=area) h1
    refine Sz ?_
    refine az.mk (i+1) ?_ J J
    rw[wv,e]
    exact WK
   ·refine Nz ?_
    refine ao (fun h2=>?_) (fun h2=>?_)
    ·have e:=abJ (area:=area) h1 h2
     refine Sz ?_
     refine az.mk (i+1) ?_ J J
     rw[wv,e]
     exact WK
    ·have e:=abY (area:=area) h1 h2
     refine Sz ?_
     refine az.mk (i+1) ?_ J J
     rw[wv,e,append_nil]
     exact WK
  ·obtain rfl:i=l.length:=J
   all_goals exact Fz
theorem aS {t:Ty} {l:List t.den} {i:Nat} (h:i < l.length):nth (t:=t) l i ∈ l:=by
 rw[aM h]; exact getElem_mem h
theorem LQ {l:List DV} (h:dD l=true):bO l:=@of_decide_eq_true _ (Classical.propDecidable _) h
def qf (l:List (List DV)):Nat->List DE
 | 0=>[]
 | k+1=>qf l k++px (nth (t:=.slice an) l k) k
def dX (l:List (List DV)):List DE:=qf l l.length
theorem yx (l:List (List DV)) (h:∀a ∈ l,a.length<=16):∀k,k<=l.length->(qf l k).length<=16 * k
 | 0,_=>le_refl _
 | k+1,hk=>by
  have h1:=yx l h k J
  have h2:=tN (nth (t:=.slice an) l k) k
  have h3:=h _ (aS (t:=.slice an) (i:=k) J)
  rw[qf,length_append]; omega
theorem Rw {l:List (List DV)} (h:∀a ∈ l,∀v ∈ a,bm v=true):∀k,k<=l.length->∀e ∈ qf l k,vE e=true
 | 0,_,e,he=>by cases he
 | k+1,hk,e,he=>by
  rw[qf] at he
  rcases mem_append.1 he with he|he
  ·exact Rw h k J e he
  ·exact JU (h _ (aS (t:=.slice an) (i:=k) J)) e he
theorem jk {l:List DV} (h:dD l=true):l.length<=16:=by
 have:=(LQ h).1
 omega
theorem oT {l:List DV} (h:dD l=true):∀v ∈ l,bm v=true:=(LQ h).2.1
def nP (e f:DE):Option Rat:=iT (bo (kY f (aV 0)) (kY e (aV 0))) (bo (jv e) (jv f))
def rF (e f:DE):Bool:=(nP e f).isSome && (nZ e (nP e f) (nP e f) && nZ f (nP e f) (nP e f))
def rl (e f:DE):Option Rat:=if rF e f=true then nP e f else none
theorem uO (e f:DE):aY (nP e f):=tK _ _
theorem Dl (e f:DE):aY (rl e f):=by
 unfold rl; split
 ·exact uO _ _
 ·exact eu
theorem X8 {e f:DE} (h:rF e f=true):(rl e f).isSome=true:=by
 unfold rl; rw[if_pos h]
 unfold rF at h
 rw[Bool.and_eq_true] at h
 exact h.1
theorem LV:aY (aV 0):=dN ae
theorem Jk (e f:DE) (he:vE e=true) (hf:vE f=true):Fn prog 188 [⟨aK,e⟩,⟨aK,f⟩] false [⟨au,oD (rl e f)⟩,⟨.bool,rF e f⟩]:=by
 have v1:=oR e
 have v2:=oR f
 rw[he] at v1
 rw[hf] at v2
 have c1:=vI e he
 have c2:=vI f hf
 have c3:=cZ (jv e) (jv f) (B5 _) (B5 _)
 have c0:=fw 0
 have c4:=lO f hf (aV 0) LV
 have c5:=lO e he (aV 0) LV
 have c6:=cZ (kY f (aV 0)) (kY e (aV 0)) (uA _ _) (uA _ _)
 have c7:=xQ (bo (kY f (aV 0)) (kY e (aV 0))) (bo (jv e) (jv f)) (dJ _ _) (dJ _ _)
 have hx:nP e f=iT (bo (kY f (aV 0)) (kY e (aV 0))) (bo (jv e) (jv f)):=rfl
 rw[<-hx] at c7
 have c8:=h9 (nP e f)
 have c9:=rA e he _ _ (uO e f) (uO e f)
 have c10:=rA f hf _ _ (uO e f) (uO e f)
 have e1:rF e f=((nP e f).isSome && (nZ e (nP e f) (nP e f) && nZ f (nP e f) (nP e f))):=rfl
 unfold rl
 rw[e1]
 clear e1 hx
 generalize nP e f=x at *
 generalize jv e=s1 at *
 generalize jv f=s2 at *
 generalize kY e (aV 0)=t1 at *
 generalize kY f (aV 0)=t2 at *
 obtain⟨⟨a1,a2⟩,⟨a3,a4⟩,a5,a6⟩:=e
 obtain⟨⟨b1,b2⟩,⟨b3,b4⟩,b5,b6⟩:=f
 cases g1:x.isSome<;>rw[g1] at c8
 ·refine fe func188 ntmps188 results188 fun hwf=>?_
  refine Cz v1 ?_
  refine cw v2 ?_
  refine Cz c1 ?_
  refine cw c2 ?_
  refine Cz c3 ?_
  refine cw c0 ?_
  refine Cz c4 ?_
  refine cw c0 ?_
  refine Cz c5 ?_
  refine cw c6 ?_
  refine Cz c7 ?_
  refine cw c8 ?_
  all_goals exact Fz
 cases g2:nZ ((a1,a2),(a3,a4),a5,a6) x x<;>rw[g2] at c9
 ·refine fe func188 ntmps188 results188 fun hwf=>?_
  refine Cz v1 ?_
  refine cw v2 ?_
  refine Cz c1 ?_
  refine cw c2 ?_
  refine Cz c3 ?_
  refine cw c0 ?_
  refine Cz c4 ?_
  refine cw c0 ?_
  refine Cz c5 ?_
  refine cw c6 ?_
  refine Cz c7 ?_
  refine cw c8 ?_
  refine Sz ?_
  refine cw c9 ?_
  all_goals exact Fz
 cases g3:nZ ((b1,b2),(b3,b4),b5,b6) x x<;>rw[g3] at c10
 ·refine fe func188 ntmps188 results188 fun hwf=>?_
  refine Cz v1 ?_
  refine cw v2 ?_
  refine Cz c1 ?_
  refine cw c2 ?_
  refine Cz c3 ?_
  refine cw c0 ?_
  refine Cz c4 ?_
  refine cw c0 ?_
  refine Cz c5 ?_
  refine cw c6 ?_
  refine Cz c7 ?_
  refine cw c8 ?_
  refine Cz c9 ?_
  refine cw c10 ?_
  all_goals exact Fz
 ·refine fe func188 ntmps188 results188 fun hwf=>?_
  refine Cz v1 ?_
  refine cw v2 ?_
  refine Cz c1 ?_
  refine cw c2 ?_
  refine Cz c3 ?_
  refine cw c0 ?_
  refine Cz c4 ?_
  refine cw c0 ?_
  refine Cz c5 ?_
  refine cw c6 ?_
  refine Cz c7 ?_
  refine cw c8 ?_
  refine Cz c9 ?_
  refine cw c10 ?_
  all_goals exact Fz
def uo (e:DE) (y:Int):Option Rat:=bX (aV e.1.1) (iT (aV (y - e.1.2)) (jv e))
def n5 (e:DE) (y:Int):Bool:=!decide (e.1.2=e.2.1.2) && ((uo e y).isSome && nZ e (uo e y) (uo e y))
def nr (e:DE) (y:Int):Option Rat:=if n5 e y=true then uo e y else none
theorem DO (e:DE) (y:Int):aY (uo e y):=fS _ _
theorem r8 (e:DE) (y:Int):aY (nr e y):=by
 unfold nr; split
 ·exact DO _ _
 ·exact eu
theorem LF {e:DE} {y:Int} (h:n5 e y=true):(nr e y).isSome=true:=by
 unfold nr; rw[if_pos h]
 unfold n5 at h
 rw[Bool.and_eq_true,Bool.and_eq_true] at h
 exact h.2.1
theorem Gh (e:DE) (y:Int) (he:vE e=true) (hy:-1000<=y/\y<=1000):Fn prog 189 [⟨aK,e⟩,⟨.int,y⟩] false [⟨au,oD (nr e y)⟩,⟨.bool,n5 e y⟩]:=by
 have k1:(e.1.1).natAbs<=1000/\(y - e.1.2).natAbs<=2000:=by
  obtain⟨a,b,n,lw⟩:=e
  obtain⟨k1,k2,k3,k4⟩:=eB (HJ he).1
  show a.1.natAbs<=1000/\(y - a.2).natAbs<=2000
  omega
 have v1:=oR e
 rw[he] at v1
 have w1:=dH y (-1000) 1000
 rw[aj hy] at w1
 have c0:=fw e.1.1
 have c1:=fw (y - e.1.2)
 have c2:=vI e he
 have c3:=xQ (aV (y - e.1.2)) (jv e) (dN (le_trans k1.2 ae)) (B5 _)
 have c4:=er (aV e.1.1) (iT (aV (y - e.1.2)) (jv e)) (dN (le_trans k1.1 ae)) (tK _ _)
 have hx:uo e y=bX (aV e.1.1) (iT (aV (y - e.1.2)) (jv e)):=rfl
 rw[<-hx] at c4
 have c8:=h9 (uo e y)
 have c9:=rA e he _ _ (DO e y) (DO e y)
 have e1:n5 e y=(!decide (e.1.2=e.2.1.2) && ((uo e y).isSome && nZ e (uo e y) (uo e y))):=rfl
 unfold nr
 rw[e1]
 clear e1 hx
 generalize uo e y=x at *
 generalize jv e=s1 at *
 obtain⟨⟨a1,a2⟩,⟨a3,a4⟩,a5,a6⟩:=e
 obtain⟨k3,k4,_⟩:=HJ he
 obtain⟨m1,m2,m3,m4⟩:=eB k3
 simp only at m1 m2 m3 m4 c0 c1 c2 c3 c4 ⊢
 by_cases g0:a2=a4
 ·have d0:=aj g0
  refine fe func189 ntmps189 results189 fun hwf=>?_
  refine Bz v1 ?_
  exact Gz d0
 have d0:=ak g0
 cases g1:x.isSome<;>rw[g1] at c8
 ·refine fe func189 ntmps189 results189 fun hwf=>?_
  refine Bz v1 ?_
  refine Tz d0 ?_
  refine cw w1 ?_
  refine Cz c0 ?_
  refine cw c1 ?_
  refine Cz c2 ?_
  refine cw c3 ?_
  refine Cz c4 ?_
  refine cw c8 ?_
  all_goals exact Fz
 cases g2:nZ ((a1,a2),(a3,a4),a5,a6) x x<;>rw[g2] at c9
 ·refine fe func189 ntmps189 results189 fun hwf=>?_
  refine Bz v1 ?_
  refine Tz d0 ?_
  refine cw w1 ?_
  refine Cz c0 ?_
  refine cw c1 ?_
  refine Cz c2 ?_
  refine cw c3 ?_
  refine Cz c4 ?_
  refine cw c8 ?_
  refine Sz ?_
  refine cw c9 ?_
  all_goals exact Fz
 ·refine fe func189 ntmps189 results189 fun hwf=>?_
  refine Bz v1 ?_
  refine Tz d0 ?_
  refine cw w1 ?_
  refine Cz c0 ?_
  refine cw c1 ?_
  refine Cz c2 ?_
  refine cw c3 ?_
  refine Cz c4 ?_
  refine cw c8 ?_
  refine Sz ?_
  refine cw c9 ?_
  all_goals exact Fz
def fit (q:Rat):Prop:=q.num.natAbs < 1000000000/\q.den < 1000000000
theorem xa {q:Rat} (h:fit q):small q:=by
 have h1:=db h.1
 have h2:=db h.2
 exact⟨J,J⟩
theorem Mr {q:Rat} (h:fit q):fZ q=some q:=dO (xa h)
theorem Yk {z:Int} (h:z.natAbs < 1000000000):fit (z:Rat):=⟨h,(by decide:1 < 1000000000)⟩
theorem MY {z d:Int} (hz:z.natAbs < 1000000000) (hd:1<=d/\d < 1000000000):fit ((z:Rat) / (d:Rat)):=by
 have e:(z:Rat) / (d:Rat)=_root_.mkRat z d.toNat:=by
  rw[Rat.mkRat_eq_div]
  have h:((d.toNat:Nat):Int)=d:=J
  have:((d.toNat:Nat):Rat)=((d:Int):Rat):=by rw[<-h]; rfl
  rw[this]
 rw[e]
 obtain⟨h1,h2,_⟩:=C2 (z:=z) (n:=d.toNat) J
 unfold fit
 rw[h1,h2]
 have h3:=div_le_self z.natAbs (gcd z.natAbs d.toNat)
 have h4:=div_le_self d.toNat (gcd z.natAbs d.toNat)
 omega
theorem aa1 {q:Rat} (h:fit q):aY (some q):=fun p hp=>by injection hp with hp; subst hp; exact xa h
theorem aaW {q:Rat} (h:fit q):aw (fo q)=some q:=dT (xa h)
theorem YQ {p q:Rat} (h:fit (p+q)):bX (some p) (some q)=some (p+q):=Mr h
theorem mu {p q:Rat}:eI p q<=0 ↔ p<=q:=by
 unfold eI
 split
 ·rename_i h; exact⟨fun _=>Rat.le_of_lt h,fun _=>ae⟩
 ·split
  ·rename_i h; exact⟨fun h=>absurd h ae,fun h2=>absurd h2 (not_le.2 h)⟩
  ·rename_i h1 h2; exact⟨fun _=>not_lt.1 h2,fun _=>ae⟩
theorem qR {p q:Rat}:0<=eI p q ↔ q<=p:=by
 unfold eI
 split
 ·rename_i h; exact⟨fun h=>absurd h ae,fun h2=>absurd h2 (not_le.2 h)⟩
 ·split
  ·rename_i h; exact⟨fun _=>Rat.le_of_lt h,fun _=>ae⟩
  ·rename_i h1 h2; exact⟨fun _=>not_lt.1 h1,fun _=>ae⟩
def fI (L G:Nat->Int):Nat->Int
 | 0=>L 0
 | i+1=>min (L (i+1)) (fI L G i+G i)
def bI (L G:Nat->Int) (n:Nat):Nat->Int
 | 0=>fI L G (n - 1)
 | k+1=>min (fI L G (n - 2 - k)) (bI L G n k+G (n - 2 - k))
def pI (L G:Nat->Int) (n i:Nat):Int:=bI L G n (n - 1 - i)
section
variable {L G:Nat->Int} {n:Nat}
theorem V9 (i:Nat):fI L G i<=L i:=by
 cases i with
 | zero=>exact Int.le_refl _
 | succ i=>exact Int.min_le_left ..
theorem G3 (hL:∀i,0<=L i) (hG:∀i,0<=G i):∀i,0<=fI L G i
 | 0=>hL 0
 | i+1=>by
  have h1:=G3 hL hG i
  have h2:=hL (i+1)
  have h3:=hG i
  show 0<=min _ _
  omega
theorem WZ (hL:∀i,0<=L i) (hG:∀i,0<=G i):∀k,0<=bI L G n k
 | 0=>G3 hL hG _
 | k+1=>by
  have h1:=WZ hL hG k
  have h2:=G3 hL hG (n - 2 - k)
  have h3:=hG (n - 2 - k)
  show 0<=min _ _
  omega
theorem NW:pI L G n (n - 1)=fI L G (n - 1):=by unfold pI; rw[sub_self]; rfl
theorem yF {i:Nat} (h:i+1 < n):pI L G n i=min (fI L G i) (pI L G n (i+1)+G i):=by
 unfold pI
 rw[show n - 1 - i=(n - 1 - (i+1))+1 from J]
 show min (fI L G (n - 2 - (n - 1 - (i+1)))) (_+G (n - 2 - (n - 1 - (i+1))))=_
 rw[show n - 2 - (n - 1 - (i+1))=i from J]
theorem W4 {i:Nat} (h:i < n):pI L G n i<=fI L G i:=by
 by_cases h1:i+1 < n
 ·rw[yF h1]; exact Int.min_le_left ..
 ·rw[show i=n - 1 from J,NW]; exact Int.le_refl _
theorem Wl {i:Nat} (h:i < n):pI L G n i<=L i:=Int.le_trans (W4 h) (V9 i)
theorem WV (hL:∀i,0<=L i) (hG:∀i,0<=G i) (i:Nat):0<=pI L G n i:=WZ hL hG _
theorem XE {i:Nat} (h:i+1 < n):pI L G n i<=pI L G n (i+1)+G i:=by rw[yF h]; exact Int.min_le_right ..
theorem ab8 (hG:∀i,0<=G i) {i:Nat} (h:i+1 < n):pI L G n (i+1)<=pI L G n i+G i:=by
 have h1:=yF (L:=L) (G:=G) h
 have h2:=W4 (L:=L) (G:=G) h
 have h3:fI L G (i+1)<=fI L G i+G i:=Int.min_le_right ..
 have h4:=hG i
 omega
end
section
variable {l:List DP} {a:Int} {w:List DR} {L G:Nat->Int}
end
def mq (M z:Int):Rat:=(z:Rat) / (M:Rat)
theorem abj {M:Int} (hM:1<=M) (z:Int):mq M z=_root_.mkRat z M.toNat:=by
 unfold mq
 rw[Rat.mkRat_eq_div]
 have h:((M.toNat:Nat):Int)=M:=J
 have:((M.toNat:Nat):Rat)=(((M.toNat:Nat):Int):Rat):=rfl
 rw[this,h]
theorem VZ {M z:Int} (hM:1<=M) (h1:M < ((pw 24:Nat):Int)) (h2:-((pw 24:Nat):Int) < z/\z < ((pw 24:Nat):Int)):small (mq M z):=by
 obtain⟨m1,m2,_⟩:=C2 (z:=z) (n:=M.toNat) J
 have h3:=div_le_self z.natAbs (gcd z.natAbs M.toNat)
 have h4:=div_le_self M.toNat (gcd z.natAbs M.toNat)
 have e:=abj hM z
 refine⟨?_,?_⟩
 ·rw[e,m1]; exact dA.2 J
 ·rw[e,m2]; exact dA.2 J
theorem OK {D:Int} (h:D ≠ 0):(D:Rat) ≠ 0:=fun e=>h (Rat.intCast_inj.1 e)
theorem abA {a:Int} (h:0<=a):(0:Rat)<=(a:Rat):=Rat.intCast_le_intCast.2 h
theorem Wd {D a:Int} {q:Rat} (hD:1<=D) (h:q * (D:Rat)=(a:Rat)):q=mq D a:=by
 have:=OK (show D ≠ 0 from J)
 unfold mq
 rw[<-h]; grind
def fq (D B:Int) (q:Rat):Prop:=∃a:Int,(-B<=a/\a<=B)/\q * (D:Rat)=(a:Rat)
theorem cK {D B:Int} {q:Rat} (h:fq D B q) (h0:1<=D) (h1:D < ((pw 24:Nat):Int)) (h2:B < ((pw 24:Nat):Int)):small q:=by
 obtain⟨a,k1,k2⟩:=h
 rw[Wd h0 k2]
 exact VZ h0 h1 ⟨J,J⟩
theorem lu {D B C:Int} {q:Rat} (h:fq D B q) (k:B<=C):fq D C q:=by
 obtain⟨a,h1,h2⟩:=h
 exact⟨a,J,h2⟩
theorem pQ {D A B:Int} {p q:Rat} (h:fq D A p) (k:fq D B q):fq D (A+B) (p+q):=by
 obtain⟨a,h1,h2⟩:=h
 obtain⟨b,k1,k2⟩:=k
 refine⟨a+b,J,?_⟩
 rw[Rat.intCast_add,<-h2,<-k2]; grind
theorem ZZ {D A:Int} {p:Rat} (h:fq D A p):fq D A (-p):=by
 obtain⟨a,h1,h2⟩:=h
 refine⟨-a,J,?_⟩
 rw[Rat.intCast_neg,<-h2]; grind
theorem IC {D A B:Int} {p q:Rat} (h:fq D A p) (k:fq D B q):fq D (A+B) (p - q):=by
 rw[Rat.sub_eq_add_neg]; exact pQ h (ZZ k)
theorem mY {a b A B:Int} (h:-A<=a/\a<=A) (k:-B<=b/\b<=B):-(A * B)<=a * b/\a * b<=A * B:=by
 have h1:(a * b).natAbs<=A.toNat * B.toNat:=by
  rw[Int.natAbs_mul]
  exact Nat.mul_le_mul J J
 have h2:((A.toNat * B.toNat:Nat):Int)=A * B:=by
  rw[Int.natCast_mul,Int.toNat_of_nonneg J,Int.toNat_of_nonneg J]
 omega
theorem Bx {D E A B:Int} {p q:Rat} (h:fq D A p) (k:fq E B q):fq (D * E) (A * B) (p * q):=by
 obtain⟨a,h1,h2⟩:=h
 obtain⟨b,k1,k2⟩:=k
 refine⟨a * b,mY h1 k1,?_⟩
 rw[intCast_mul,intCast_mul,<-h2,<-k2]; grind
theorem Ct {D B:Int} (z:Int) (h:-B<=z/\z<=B) (hD:0<=D):fq D (B * D) (z:Rat):=by
 refine⟨z * D,?_,by rw[intCast_mul]⟩
 have:=mY h (show -D<=D/\D<=D from J)
 exact this
theorem qG {D B:Int} {q:Rat} (h:fq D B q) {k:Int} (hk:0<=k):fq (D * k) (B * k) q:=by
 obtain⟨a,h1,h2⟩:=h
 refine⟨a * k,mY h1 J,?_⟩
 rw[intCast_mul,intCast_mul,<-h2]; grind
def LC:Int:=1809820685966590368064560042952294287323635791604197016496149498651944117569488965965339008662640956749790351016088336574624000
theorem dC:1<=LC:=ae
theorem ZU:decide (LC * 1000000000000000000000000000000 < ((pw 24:Nat):Int))=true:=by kernel_rfl
theorem iD:LC * 1000000000000000000000000000000 < ((pw 24:Nat):Int):=of_decide_eq_true ZU
theorem aat:((List.range 288).all fun k=>decide (LC % ((k:Int)+1)=0))=true:=by kernel_rfl
theorem WD {n:Int} (h:1<=n/\n<=288):∃k,LC=n * k/\1<=k:=by
 have h1:=List.all_eq_true.1 aat (n.toNat - 1) (List.mem_range.2 J)
 have h2:LC % (((n.toNat - 1:Nat):Int)+1)=0:=of_decide_eq_true h1
 rw[show ((n.toNat - 1:Nat):Int)+1=n from J] at h2
 obtain⟨k,hk⟩:=Int.dvd_of_emod_eq_zero h2
 refine⟨k,hk,?_⟩
 have hp:=dC
 refine Classical.byContradiction fun hn=>?_
 have:=mul_nonneg (show 0<=n from J) (show 0<=-k from J)
 rw[mul_neg,<-hk] at this
 omega
def eX (e:DE):Int:=e.1.1
def eY (e:DE):Int:=e.1.2
def eR (e:DE):Int:=e.2.1.1
def eW (e:DE):Int:=e.2.1.1 - e.1.1
def eH (e:DE):Int:=e.2.1.2 - e.1.2
structure gE (e:DE):Prop where
 w:1<=eW e/\eW e<=12
 h:-12<=eH e/\eH e<=12
 x:-100<=eX e/\eX e<=100
 y:-100<=eY e/\eY e<=100
def bJ (e:DE):Rat:=(eH e:Rat) / (eW e:Rat)
def hR (e:DE) (q:Rat):Rat:=(eY e:Rat)+bJ e * (q - (eX e:Rat))
section
variable {e f:DE} {q:Rat}
theorem gE.wne (h:gE e):(eW e:Rat) ≠ 0:=OK (by have:=h.w; omega)
theorem gE.sl (h:gE e):bJ e * (eW e:Rat)=(eH e:Rat):=by
 have:=h.wne
 unfold bJ; grind
theorem gE.We (h:gE e):fq (eW e) 12 (bJ e):=⟨eH e,h.h,h.sl⟩
theorem gE.jv (h:gE e):jv e=some (bJ e):=dO (cK h.We h.w.1 (by have:=h.w; have:=iD; have:=dC; omega) (by have:=iD; have:=dC; omega))
theorem Dc {p q:Rat} (h:small (p - q)):bo (some p) (some q)=some (p - q):=by
 rw[Rat.sub_eq_add_neg] at h ⊢
 exact dO h
abbrev gX (q:Rat):Prop:=fq LC (1000 * LC) q
theorem RH {z:Int} (h:-1000<=z/\z<=1000):gX (z:Rat):=Ct z h (by have:=dC; omega)
theorem WLC (h:gE e):1<=eW e * LC/\eW e * LC<=12 * LC:=by
 have h1:=h.w
 have h2:=dC
 have h3:=Int.mul_le_mul_of_nonneg_right h1.1 (show 0<=LC from J)
 have h4:=Int.mul_le_mul_of_nonneg_right h1.2 (show 0<=LC from J)
 omega
theorem aao (h:gE e) (hq:gX q):fq (eW e * LC) (14400 * LC) (hR e q)/\small (q - (eX e:Rat))/\small (bJ e * (q - (eX e:Rat))):=by
 have h1:=dC
 have h2:=iD
 have h3:=WLC h
 have a:fq LC (1000 * LC+100 * LC) (q - (eX e:Rat)):=IC hq (Ct _ h.x J)
 have b:=Bx h.We a
 have c:fq (eW e * LC) (100 * (eW e * LC)) (eY e:Rat):=Ct _ h.y J
 exact⟨lu (pQ c b) J,cK a h1 J J,cK b h3.1 J J⟩
theorem u6 (h:gE e) (hq:gX q):kY e (some q)=some (hR e q):=by
 obtain⟨a,b,c⟩:=aao h hq
 have h2:=iD
 have h3:=WLC h
 have h1:=dC
 unfold kY
 rw[h.jv,show bo (some q) (aV e.1.1)=some (q - (eX e:Rat)) from Dc b,show eT (some (bJ e)) (some (q - (eX e:Rat)))=some (bJ e * (q - (eX e:Rat))) from dO c]
 exact dO (cK a h3.1 J J)
def HN:Int:=LC * 27720
theorem ab1 {n:Int} (h:1<=n/\n<=12):∃k:Int,n * k=27720/\1<=k/\k<=27720:=by
 have:n=1\/n=2\/n=3\/n=4\/n=5\/n=6\/n=7\/n=8\/n=9\/n=10\/n=11\/n=12:=J
 rcases this with rfl|rfl|rfl|rfl|rfl|rfl|rfl|rfl|rfl|rfl|rfl|rfl
 ·exact⟨27720,ae⟩
 ·exact⟨13860,ae⟩
 ·exact⟨9240,ae⟩
 ·exact⟨6930,ae⟩
 ·exact⟨5544,ae⟩
 ·exact⟨4620,ae⟩
 ·exact⟨3960,ae⟩
 ·exact⟨3465,ae⟩
 ·exact⟨3080,ae⟩
 ·exact⟨2772,ae⟩
 ·exact⟨2520,ae⟩
 ·exact⟨2310,ae⟩
abbrev gY (q:Rat):Prop:=fq HN (14400 * HN) q
theorem Ui (h:gE e) (hq:gX q):gY (hR e q):=by
 obtain⟨a,_,_⟩:=aao h hq
 obtain⟨k,k1,k2,k3⟩:=ab1 h.w
 have h1:=dC
 have b:=qG a (show 0<=k from J)
 rw[show eW e * LC * k=HN by rw[HN,<-k1,Int.mul_comm (eW e) LC,Int.mul_assoc]] at b
 refine lu b ?_
 have:=Int.mul_le_mul_of_nonneg_left k3 (show 0<=14400 * LC from J)
 unfold HN; omega
theorem IW {z:Int} (h:-14400<=z/\z<=14400):gY (z:Rat):=Ct z h (by have:=dC; unfold HN; omega)
theorem kO {y:Rat} (h:gY y):small y:=by
 have h1:=dC
 have h2:=iD
 exact cK h (by unfold HN; omega) (by unfold HN; omega) (by unfold HN; omega)
theorem Bb (h:gX q):small q:=by
 have h1:=dC
 have h2:=iD
 exact cK h h1 J J
theorem yw {p q:Rat}:nZ e (some p) (some q)=true ↔ (eX e:Rat)<=p/\q<=(eR e:Rat):=by
 unfold nZ
 rw[Bool.and_eq_true,decide_eq_true_iff,decide_eq_true_iff]
 show eI (eX e:Rat) p<=0/\0<=eI (eR e:Rat) q ↔ _
 rw[mu,qR]
theorem Nd {p q:Rat} (h:q ≠ 0):iT (some p) (some q)=fZ (p / q):=by unfold iT; simp only[if_neg h]
theorem aaK {p q:Rat} (h:q=0):iT (some p) (some q)=none:=by unfold iT; simp only[if_pos h]
def xR (e f:DE):Rat:=(hR f 0 - hR e 0) / (bJ e - bJ f)
theorem aaA (h:gE e):fq (eW e) 2400 (hR e 0):=by
 have hw:=h.w
 have a1:=mY h.y (show -12<=eW e/\eW e<=12 from J)
 have a2:=mY h.h h.x
 refine⟨eY e * eW e - eH e * eX e,J,?_⟩
 have:=h.sl
 unfold hR
 rw[Rat.intCast_sub,intCast_mul,intCast_mul,<-this]; grind
theorem Oj:gX 0:=RH (z:=0) ae
theorem Zz {z:Int} (h:z ≠ 0):(1<=z/\(z.natAbs:Int)=z)\/(1<=-z/\(z.natAbs:Int)=-z):=J
theorem Hi {d c:Int} {x:Rat} (hd:d ≠ 0) (hb:-288<=d/\d<=288) (hc:-1000000<=c/\c<=1000000) (hx:x * (d:Rat)=(c:Rat)):small x/\∃z:Int,x * (LC:Rat)=(z:Rat):=by
 have h1:=dC
 have h2:=iD
 rcases Zz hd with ⟨p1,_⟩|⟨p1,_⟩
 ·obtain⟨k,hk,_⟩:=WD (n:=d) J
  refine⟨cK ⟨c,hc,hx⟩ p1 J J,c * k,?_⟩
  rw[hk,intCast_mul,intCast_mul,<-hx]; grind
 ·obtain⟨k,hk,_⟩:=WD (n:=-d) J
  have hx2:x * ((-d:Int):Rat)=((-c:Int):Rat):=by rw[Rat.intCast_neg,Rat.intCast_neg,<-hx]; grind
  refine⟨cK (B:=1000000) ⟨-c,J,hx2⟩ p1 J J,-c * k,?_⟩
  rw[hk,intCast_mul,intCast_mul,<-hx2]; grind
theorem QX (he:gE e) (hf:gE f):small (hR f 0 - hR e 0)/\small (bJ e - bJ f)/\(bJ e ≠ bJ f->small (xR e f)/\∃z:Int,xR e f * (LC:Rat)=(z:Rat)):=by
 have h1:=dC
 have h2:=iD
 have we:=he.w
 have wf:=hf.w
 have m1:=mY (show -12<=eW e/\eW e<=12 from J) (show -12<=eW f/\eW f<=12 from J)
 have m2:=Int.mul_pos (show 0 < eW e from J) (show 0 < eW f from J)
 have a:=qG (aaA hf) (k:=eW e) J
 have b:=qG (aaA he) (k:=eW f) J
 rw[Int.mul_comm (eW f)] at a
 have c:=lu (IC a b) (show 2400 * eW e+2400 * eW f<=57600 from J)
 have d1:=qG he.We (k:=eW f) J
 have d2:=qG hf.We (k:=eW e) J
 rw[Int.mul_comm (eW f)] at d2
 have d:=lu (IC d1 d2) (show 12 * eW f+12 * eW e<=288 from J)
 refine⟨cK c J J J,cK d J J J,fun hne=>?_⟩
 obtain⟨C,c1,c2⟩:=c
 obtain⟨D,d3,d4⟩:=d
 have hs:bJ e - bJ f ≠ 0:=fun h=>hne (by grind)
 have hm:((eW e * eW f:Int):Rat) ≠ 0:=OK J
 refine Hi (d:=D) (c:=C) (fun h=>?_) d3 J ?_
 ·rw[h] at d4
  have d4:(bJ e - bJ f) * ((eW e * eW f:Int):Rat)=0:=d4
  rcases Rat.mul_eq_zero.1 d4 with h|h
  ·exact hs h
  ·exact hm h
 ·unfold xR
  rw[<-d4,<-c2]; grind
theorem W1 (he:gE e) (hf:gE f) (hne:bJ e ≠ bJ f):nP e f=some (xR e f)/\∃z:Int,xR e f * (LC:Rat)=(z:Rat):=by
 obtain⟨a,b,c⟩:=QX he hf
 obtain⟨c1,c2⟩:=c hne
 refine⟨?_,c2⟩
 have hs:bJ e - bJ f ≠ 0:=fun h=>hne (by grind)
 unfold nP
 rw[show aV 0=some (0:Rat) from rfl,u6 hf Oj,u6 he Oj,hf.jv,he.jv,Dc a,Dc b]
 rw[Nd hs]
 exact dO c1
theorem abS (he:gE e) (hf:gE f) (h:bJ e=bJ f):nP e f=none:=by
 obtain⟨a,b,_⟩:=QX he hf
 have hs:bJ e - bJ f=0:=by grind
 unfold nP
 rw[show aV 0=some (0:Rat) from rfl,u6 hf Oj,u6 he Oj,hf.jv,he.jv,Dc a,Dc b]
 exact aaK hs
def lR (e:DE) (y:Int):Rat:=(eX e:Rat)+((y - eY e:Int):Rat) / bJ e
theorem Wt (he:gE e) {y:Int} (hy:-100<=y/\y<=100) (hne:eH e ≠ 0):uo e y=some (lR e y)/\∃z:Int,lR e y * (LC:Rat)=(z:Rat):=by
 have h1:=dC
 have h2:=iD
 have hw:=he.w
 have hh:=he.h
 have hx:=he.x
 have hy2:=he.y
 have hs:bJ e ≠ 0:=fun h=>by
  have:=he.sl
  rw[h] at this
  have h3:((eH e:Int):Rat)=((0:Int):Rat):=by rw[<-this]; show (0:Rat) * _=0; grind
  exact hne (Rat.intCast_inj.1 h3)
 have m1:=mY (show -200<=y - eY e/\y - eY e<=200 from J) (show -12<=eW e/\eW e<=12 from J)
 have m2:=mY hx hh
 have e1:((y - eY e:Int):Rat) / bJ e * (eH e:Rat)=(((y - eY e) * eW e:Int):Rat):=by
  rw[<-he.sl,intCast_mul]; grind
 have e2:lR e y * (eH e:Rat)=((eX e * eH e+(y - eY e) * eW e:Int):Rat):=by
  unfold lR
  rw[Rat.intCast_add,intCast_mul,<-e1]; grind
 obtain⟨a1,_⟩:=Hi hne J J e1
 obtain⟨b1,b2⟩:=Hi hne J J e2
 refine⟨?_,b2⟩
 unfold uo
 rw[he.jv]
 have h3:iT (aV (y - e.1.2)) (some (bJ e))=some (((y - eY e:Int):Rat) / bJ e):=by
  exact (Nd hs).trans (dO a1)
 rw[h3]
 exact dO b1
end
@[go_sem] noncomputable def rC (q:Option Rat):List AV:=[.sc (.bool (oD q).1.1),.sl .int (oD q).1.2,.sl .int (oD q).2]
def xH (s:Option Rat × Option Rat × Bool) (y:Option Rat):Option Rat × Option Rat × Bool:=if s.2.2=true then (bP s.1 y,iN s.2.1 y,true) else (y,y,true)
theorem aa3 {s:Option Rat × Option Rat × Bool} {y:Option Rat} (h1:aY s.1) (h2:aY s.2.1) (h:aY y):aY (xH s y).1/\aY (xH s y).2.1:=by
 unfold xH; split
 ·exact⟨lp h1 h,qW h2 h⟩
 ·exact⟨h,h⟩
theorem UC (x lo hi:Option Rat) (f:Bool) (hx:aY x) (hlo:aY lo) (hhi:aY hi):n0 prog 264 [.agg (rC x),.ptr 0 0,.ptr 1 0,.ptr 2 0] [(0,.box [.sc (.bool f)]),(1,.box (rC lo)),(2,.box (rC hi))] (.dY []) [(0,.box [.sc (.bool (xH (lo,hi,f) x).2.2)]),(1,.box (rC (xH (lo,hi,f) x).1)),(2,.box (rC (xH (lo,hi,f) x).2.1))]:=by
 cases f
 ·have e:xH (lo,hi,false) x=(x,x,true):=rfl
  rw[e]
  refine dq bK bA func264 rfl rfl _ ntmps264 _ results264 ah (by first|exact .inl rfl|exact .inr ⟨_,rfl⟩) fun β=>?_
  refine Sz ?_
  exact WK
 ·have e:xH (lo,hi,true) x=(bP lo x,iN hi x,true):=rfl
  rw[e]
  have c1:=kQ lo x hlo hx
  have c2:=pH hi x hhi hx
  refine dq bK bA func264 rfl rfl _ ntmps264 _ results264 ah (by first|exact .inl rfl|exact .inr ⟨_,rfl⟩) fun β=>?_
  refine Cz c1 ?_
  refine cw c2 ?_
  refine Sz ?_
  exact WK
def om (es:List DE) (x:Option Rat):Nat->Option Rat × Option Rat × Bool
 | 0=>(none,none,false)
 | i+1=>if nZ (nth (t:=aK) es i) x x=true then xH (om es x i) (kY (nth (t:=aK) es i) x) else om es x i
theorem CK (es:List DE) (x:Option Rat):∀i,aY (om es x i).1/\aY (om es x i).2.1
 | 0=>⟨eu,eu⟩
 | i+1=>by
  have ih:=CK es x i
  rw[om]
  split
  ·exact aa3 ih.1 ih.2 (uA _ _)
  ·exact ih
def oE (l:List DV) (x:Option Rat):Option Rat × Option Rat × Bool:=om (px l 0) x (px l 0).length
theorem EY (l:List DV) (x:Option Rat):aY (oE l x).1/\aY (oE l x).2.1:=CK _ _ _
theorem JJ (l:List DV) (x:Option Rat) (hl:dD l=true) (hx:aY x):Fn prog 195 [⟨.slice an,l⟩,⟨au,oD x⟩] false [⟨au,oD (oE l x).1⟩,⟨au,oD (oE l x).2.1⟩,⟨.bool,(oE l x).2.2⟩]:=by
 have c1:=vg l 0 (le_trans (jk hl) ae)
 have hlen:=le_trans (tN l 0) (jk hl)
 have hok:=JU (area:=0) (oT hl)
 unfold oE
 generalize px l 0=es at *
 refine fe func195 ntmps195 results195 fun hwf=>?_
 refine Bz c1 ?_
 refine aF.intro _ _ _ (fun i:Nat=>⟨[(3,.ptr 3 0),(4,.ptr 4 0),(5,.ptr 5 0),(6,.sc (.bool false)),(7,.ptr 1 0),(8,.ptr 2 0),(9,.ptr 0 0),(10,.iQ 264 [0,1,2]),(17,.sl aK es),(18,.sc (.int .i64 es.length)),(19,.sc (.int .i64 i))],[(0,.box [.sc (.bool (om es x i).2.2)]),(1,.box (rC (om es x i).1)),(2,.box (rC (om es x i).2.1)),(3,.box (rC x)),(4,.box (rC none)),(5,.box (rC none))]⟩) (fun i=>i<=es.length) (fun i=>es.length - i) 0 ?_ (zero_le _) ?_
 ·refine Wk.mk [(0,5),(1,3),(2,4),(3,0),(4,1),(5,2)] ?_
  refine Nz ?_
  try (and_intros<;>first|rfl|omega|exact⟨_,rfl⟩)
 ·rintro i hi
  refine Nz ?_
  refine ao ?_ ?_<;>intro hA
  ·have hlt:i < es.length:=J
   have he:=hok _ (aS (t:=aK) hlt)
   have c2:=rA _ he x x hx hx
   have c3:=lO _ he x hx
   have c4:=UC (kY (nth (t:=aK) es i) x) (om es x i).1 (om es x i).2.1 (om es x i).2.2 (uA _ _) (CK es x i).1 (CK es x i).2
   have e:om es x (i+1)=if nZ (nth (t:=aK) es i) x x=true then xH (om es x i) (kY (nth (t:=aK) es i) x) else om es x i:=rfl
   cases g:nZ (nth (t:=aK) es i) x x<;>rw[g] at c2 e
   ·rw[if_neg ae] at e
    refine Cz c2 ?_
    refine az.mk (i+1) ?_ J J
    rw[e]
    exact WK
   ·rw[if_pos rfl] at e
    refine Cz c2 ?_
    refine cw c3 ?_
    refine Sz ?_
    refine jw.mk (c4) ?_
    refine Sz ?_
    refine az.mk (i+1) ?_ J J
    rw[e]
    exact WK
  ·obtain rfl:i=es.length:=J
   all_goals exact Fz
def yu (x top cur:Option Rat) (l:List bz.den) (y:Option Rat):List bz.den:=if bG cur (bP y top) < 0 then l++[(oD x,oD cur,oD (bP y top))] else l
theorem Nw (x top cur:Option Rat) (l:List bz.den) (y:Option Rat):(yu x top cur l y).length<=l.length+1:=by
 unfold yu; split
 ·rw[length_append]; exact le_refl _
 ·exact le_succ _
theorem JM (ver:Nat) (x top cur y:Option Rat) (l:List bz.den) (hx:aY x) (ht:aY top) (hc:aY cur) (hy:aY y) (hl:l.length<=1000):n0 prog 198 [.agg (rC y),.ptr 0 0,.ptr 1 0,.ptr 2 0,.ptr 3 0] [(0,.box (rC top)),(1,.box (rC cur)),(2,.box [.row 4 ver]),(3,.box (rC x)),(4,.row 172 bz ver false l)] (.dY []) [(0,.box (rC top)),(1,.box (rC cur)),(2,.box [.row 4 (ver+1)]),(3,.box (rC x)),(4,.row 172 bz (ver+1) false (yu x top cur l y))]:=by
 have c1:=kQ y top hy ht
 have c2:=bR cur (bP y top) hc (lp hy ht)
 have o1:=oK x hx
 have o2:=oK cur hc
 have o3:=oK (bP y top) (lp hy ht)
 unfold yu
 generalize bP y top=m at *
 by_cases h:bG cur m < 0
 ·rw[if_pos h]
  have h':=aj h
  refine dq bK bA func198 rfl rfl _ ntmps198 _ results198 ah (by first|exact .inl rfl|exact .inr ⟨_,rfl⟩) fun β=>?_
  refine Cz c1 ?_
  refine cw c2 ?_
  refine Nz ?_
  refine Tz h' ?_
  refine cw o1 ?_
  refine Cz o2 ?_
  refine cw o3 ?_
  refine Sz ?_
  exact WK
 ·rw[if_neg h]
  have h':=ak h
  refine dq bK bA func198 rfl rfl _ ntmps198 _ results198 ah (by first|exact .inl rfl|exact .inr ⟨_,rfl⟩) fun β=>?_
  refine Cz c1 ?_
  refine cw c2 ?_
  refine Nz ?_
  refine Tz h' ?_
  exact WK
end DW

namespace DW
open Go.RowKit Go.Sort
def bS (x:Int × Int):List Value:=[.int .i64 x.1,.int .i64 x.2]
theorem MK {w:World} {cs:List Value} {x:DV} {f:List Nat} (h:an.rp.rep w cs x f):cs=bS x/\f=[]/\bU x.1/\bU x.2:=by
 obtain⟨c1,c2,f1,f2,rfl,rfl,⟨rfl,rfl,h1⟩,⟨rfl,rfl,h2⟩⟩:=h
 exact⟨rfl,rfl,h1,h2⟩
theorem Yf {w:World} {x:DV} (h1:bU x.1) (h2:bU x.2):an.rp.rep w (bS x) x [] :=
 ⟨_,_,[],[],rfl,rfl,⟨rfl,rfl,h1⟩,⟨rfl,rfl,h2⟩⟩
theorem rL:an.rp.size=2:=rfl
theorem NY (x:DV) (j:Nat) (h:j < 2):(bS x)[j]? = some ((bS x)[j]!):=by
 match j,h with
 | 0,_=>rfl
 | 1,_=>rfl
theorem No (l:List DV) {t:Nat} (h:t < l.length * 2):(flatK bS 2 l.toArray)[t]! = (bS (l[t / 2]'J))[t % 2]!:=by
 rw[get_flatK bS 2 l.toArray t (by simpa using h)]
 rw[getElem!_pos l.toArray (t / 2) (by simp; omega)]
 rfl
theorem aaS {base:Nat} {w:World} {e:TypeId} {v:Value} {l:List DV} {fps:List (List Nat)} (h:bh an.rp base w e v l fps) (h0:0 < l.length) :
  ∃g cap cur,v=.slice (some ⟨g,0,none⟩) l.length cap/\base<=g/\w.heap[g]? = some (.cells cur e (0,0))/\l.length<=cap/\cap<=maxLen/\cur.size=cap * 2/\HoldsK bS 2 w g 0 l.toArray/\∀x ∈ l,bU x.1/\bU x.2:=by
 obtain⟨xs,⟨hxl,hor⟩,hfl,he⟩:=h
 rcases hor with ⟨_,hn⟩|⟨g,cap,cur,hv,hb,hg,hnc,hcm,hcs,htk⟩
 ·omega
 rw[rL] at hxl hcs htk
 refine⟨g,cap,cur,hv,hb,hg,hnc,hcm,hcs,fun j hj=>?_,fun x hx=>?_⟩
 ·have hj2:j < l.length * 2:=by simpa using hj
  refine⟨?_,frozen_of_row w g _ cur e hg⟩
  rw[zero_add,cell_of_row w g j cur e (0,0) hg,<-getElem?_toList]
  show _=some ((flatK bS 2 l.toArray)[j]!)
  rw[No l hj2]
  obtain⟨f,cs,_,h2,h3⟩:=he (j / 2) (l[j / 2]'J) (getElem?_eq_getElem _)
  obtain⟨rfl,_⟩:=MK h2
  have:=h3 (j % 2) _ (NY _ (j % 2) J)
  rw[rL,show j / 2 * 2+j % 2=j from J,<-htk,getElem?_take,if_pos hj2] at this
  exact this
 ·obtain⟨i,hi,rfl⟩:=getElem_of_mem hx
  obtain⟨f,cs,_,h2,_⟩:=he i l[i] (getElem?_eq_getElem hi)
  exact (MK h2).2.2
theorem XS {base:Nat} {w w':World} {e:TypeId} {g cap n:Nat} {cur:Array Value} {os:Array Obj} {d:List DV} (hb:base<=g) (hg:w.heap[g]? = some (.cells cur e (0,0))) (hcs:cur.size=cap * 2) (hcm:cap<=maxLen) (hd:d.length<=cap) (hI:∀x ∈ d,bU x.1/\bU x.2) (m:Nat) (hm:m<=d.length)
  (hw:w'=sortWorldK bS 2 w g 0 n d.toArray os) :
  bh an.rp base w' e (.slice (some ⟨g,0,none⟩) m cap) (d.take m) (replicate m [])/\w.grownBy w' (some g):=by
 have hgs:g < w.heap.size:=(Array.getElem?_eq_some_iff.1 hg).1
 have hg':w'.heap[g]? = some (.cells (Go.Sort.putCells id 0 (flatK bS 2 d.toArray) cur) e (0,0)):=by
  subst hw
  unfold sortWorldK putRowK putRow mapBlock grow
  have hsz:g < (Sort.ahead w n).heap.size:=hgs
  simp only[heap_ahead]
  rw[Array.getElem?_append_left (by rw[size_modify]; exact hgs),getElem?_modify,if_pos rfl,hg]
  rfl
 have hlt:(d.take m).length=m:=by rw[length_take]; omega
 have hcell:∀t,t < d.length * 2->(Go.Sort.putCells id 0 (flatK bS 2 d.toArray) cur).toList[t]? = some ((flatK bS 2 d.toArray)[t]!):=by
  intro t ht
  rw[getElem?_toList]
  unfold Go.Sort.putCells
  rw[Array.getElem?_mapIdx,Array.getElem?_eq_getElem (by omega:t < cur.size),map_some,if_pos ⟨zero_le _,by rw[size_flatK]; simpa using ht⟩]
  rfl
 have hps:(Go.Sort.putCells id 0 (flatK bS 2 d.toArray) cur).size=cap * 2:=by unfold Go.Sort.putCells; rw[Array.size_mapIdx,hcs]
 refine⟨⟨(Go.Sort.putCells id 0 (flatK bS 2 d.toArray) cur).toList.take (m * 2),⟨?_,.inr ⟨g,cap,_,?_,hb,hg',?_,hcm,hps,?_⟩⟩,?_,fun i x hx=>?_⟩,?_⟩
 ·rw[hlt,rL,length_take,length_toList,hps]; omega
 ·rw[hlt]
 ·rw[hlt]; omega
 ·rw[hlt,rL]
 ·rw[hlt,List.length_replicate]
 ·have hi:i < m:=by have:=(List.getElem?_eq_some_iff.1 hx).1; omega
  rw[getElem?_take,if_pos hi] at hx
  obtain⟨hid,hx⟩:=List.getElem?_eq_some_iff.1 hx
  subst hx
  obtain⟨i1,i2⟩:=hI _ (getElem_mem hid)
  refine⟨[],bS d[i],by simp[hi],Yf i1 i2,fun j v hj=>?_⟩
  have hj2:j < 2:=(List.getElem?_eq_some_iff.1 hj).1
  rw[rL,getElem?_take,if_pos J,hcell _ J,No d J]
  have e1:(i * 2+j) / 2=i:=J
  have e2:(i * 2+j) % 2=j:=J
  simp only[e1,e2]
  rw[<-NY _ j hj2,hj]
 ·subst hw
  refine⟨rfl,rfl,rfl,?_,fun k hk hne=>?_⟩
  ·rw[sortWorldK,size_grow]
   have:(putRowK bS 2 (Sort.ahead w n) g 0 d.toArray).heap.size=w.heap.size:=by unfold putRowK; rw[size_putRow]; rfl
   omega
  ·have hkg:g ≠ k:=fun h=>hne (by rw[h])
   unfold sortWorldK putRowK putRow mapBlock grow
   simp only[heap_ahead]
   rw[Array.getElem?_append_left (by rw[size_modify]; exact hk),getElem?_modify,if_neg hkg]
theorem kl.of {P:Program} {f:FuncId} {xs:List lC} {e:TypeId} {l l':List DV} (he:∀vs w,(callFunc f vs).run P w=.ok (.enter f vs) w) (h0:0 < l.length) (ret:Bool) (d:(∀x ∈ l,bU x.1/\bU x.2)->∀(w:World) (g cap:Nat),g < w.heap.size->l.length<=cap->cap<=maxLen->HoldsK bS 2 w g 0 l.toArray →
   Calls P f (.slice (some ⟨g,0,none⟩) l.length cap :: xs.map lC.val).toArray w fun en w'=>∃(dd:List DV) (n:Nat) (os:Array Obj),en=.returned (if ret then .slice (some ⟨g,0,none⟩) l'.length cap else .tuple #[])/\(ret=false->l'.length=l.length)/\dd.length=l.length/\(∀x ∈ dd,x ∈ l\/x=(0,0))/\l'=dd.take l'.length/\l'.length<=dd.length/\w'=sortWorldK bS 2 w g 0 n dd.toArray os):kl P f xs e an l l' ret:=by
 refine⟨he,fun w base v fps _ _ _ hone hgr=>?_⟩
 obtain⟨g,cap,cur,rfl,hb,hg,hnc,hcm,hcs,hH,hI⟩:=aaS hgr h0
 refine (d hI w g cap (Array.getElem?_eq_some_iff.1 hg).1 hnc hcm hH).mono ?_
 rintro en w' ⟨dd,n,os,h1,h2,h3,h4,h5,h6,h7⟩
 have hI2:∀x ∈ dd,bU x.1/\bU x.2:=fun x hx=>by
  rcases h4 x hx with h|rfl
  ·exact hI x h
  ·exact⟨(by show bU 0; unfold bU; omega),(by show bU 0; unfold bU; omega)⟩
 obtain⟨k1,k2⟩:=XS (base:=base) hb hg hcs hcm J hI2 l'.length h6 h7
 rw[<-h5] at k1
 exact⟨.slice (some ⟨g,0,none⟩) l'.length cap,_,h1,fun hr=>by rw[h2 hr],rfl,rfl,k1,k2,fun b hb=>by
  obtain⟨f,hf,hb⟩:=mem_flatten.1 hb
  rw[(List.mem_replicate.1 hf).2] at hb; cases hb⟩
end DW

namespace Drn
open Go
theorem Uf {α:Type}:∀(k:Ask α) (w:World),w.drawn<=(w.ask k).2.drawn:=by
 intro k
 induction k with
 | done a=>intro w; exact le_refl _
 | ask what range k ih =>
  intro w
  unfold World.ask
  dsimp only
  split
  ·exact ih _ _
  ·exact le_trans (le_succ _) (ih _ { w with drawn:=w.drawn+1 })
theorem TK (w:World) (c:Sys):w.drawn<=(w.sys c).2.drawn:=by
 have h:=Uf (Kernel.perform c w.os) w
 unfold World.sys
 split
 ·exact le_refl _
 ·rename_i h2; rw[h2] at h; exact h
theorem Tg {p:Program} {w:World} {at_:Addr} {u:TypeId} {k:Addr} {v:Value} {b:Bool} {r:World × List Addr} (h:w.viewStore p at_ u k v b=.ok r):r.1.drawn=w.drawn:=by
 unfold World.viewStore at h
 simp only[bind,Except.bind,pure,Except.pure,throw,throwThe,MonadExceptOf.throw] at h
 repeat' first
  | (cases h; done)
  | (injection h with h; subst h; rfl)
  | split at h
theorem Tu {p:Program} {w:World} {a:Addr} {v:Value} {b:Bool} {r:World × List Addr} (h:w.farStore p a v b=.ok r):r.1.drawn=w.drawn:=by
 unfold World.farStore at h
 split at h
 ·split at h
  ·rename_i h2; injection h with h; subst h; exact Tg h2
  ·cases h
 ·cases h
theorem K4 (w:World) (a:Addr) (n:Nat):(w.freeze a n).drawn=w.drawn:=by
 unfold World.freeze; split<;>rfl
def RM {α:Type} (n:Nat):Result α->Prop
 | .ok _ w=>n<=w.drawn
 | .halt _ w=>n<=w.drawn
theorem RM.le {α:Type} {m n:Nat} {r:Result α} (h:m<=n) (g:RM n r):RM m r:=by
 cases r<;>exact le_trans h g
theorem AP {α:Type} (p:Program) (e:Sem α):∀w:World,RM w.drawn (e.run p w):=by
 induction e with
 | pure a=>intro w; exact le_refl _
 | load m a k ih =>
  intro w
  unfold Sem.run
  split
  ·exact ih _ _
  ·split
   ·exact ih _ _
   ·exact le_refl _
 | store m a v k ih =>
  intro w
  have hw:∀x,RM w.drawn (k.run p (w.setCell a x)):=fun x=>ih (w.setCell a x)
  cases v
  all_goals
   simp only[Sem.run]
   repeat' first
    | exact le_refl _
    | exact hw _
    | (rename_i h; exact RM.le (le_of_eq (Tu h).symm) (ih _))
    | split
 | new o k ih=>intro w; exact ih _ { w with heap:=w.heap.push o }
 | shape r k ih=>intro w; exact ih _ _
 | freeze a n k ih=>intro w; exact RM.le (le_of_eq (K4 w a n).symm) (ih (w.freeze a n))
 | frozen a k ih=>intro w; exact ih _ _
 | getObj r k ih =>
  intro w
  unfold Sem.run
  split
  ·exact le_refl _
  ·exact ih _ _
  ·exact le_refl _
 | setObj r o k ih =>
  intro w
  unfold Sem.run
  split
  ·exact le_refl _
  ·exact ih { w with heap:=w.heap.setIfInBounds r o }
  ·exact le_refl _
 | choose q k ih =>
  intro w
  unfold Sem.run
  split
  ·exact ih _ _
  ·exact RM.le (le_succ _) (ih _ { w with drawn:=w.drawn+1 })
 | sys c k ih =>
  intro w
  unfold Sem.run
  exact RM.le (TK w c) (ih _ _)
 | program k ih=>intro w; exact ih _ _
 | mark m k ih=>intro w; exact ih _
 | halt h=>intro w; exact le_refl _
theorem df {α:Type} {p:Program} {e:Sem α} {w w':World} {a:α} (h:e.run p w=.ok a w'):w.drawn<=w'.drawn:=by
 have:=AP p e w; rw[h] at this; exact this
theorem run_halt {α:Type} {p:Program} {e:Sem α} {w w':World} {a:Halt} (h:e.run p w=.halt a w'):w.drawn<=w'.drawn:=by
 have:=AP p e w; rw[h] at this; exact this
def GM (n:Nat):GStep->Prop
 | .go _ w _|.comm _ _ _ _ w _|.spawn _ _ w _|.count _ w _|.timer _ _ w _|.alone _ _ w _|.newcoro _ _ _ w _|.coroswitch _ _ _ w _|.collect _ w _|.watch _ w _=>n<=w.drawn
 | .ended ..=>True
theorem rR {n:Nat} {es:Array Event} {s:GStep}:GM n (GStep.after es s) ↔ GM n s:=by cases s<;>exact Iff.rfl
theorem GM.le {m n:Nat} {s:GStep} (h:m<=n) (g:GM n s):GM m s:=by
 cases s<;>first|exact le_trans h g|trivial
theorem OY {n:Nat} (w:World) (fd:Nat) (text:ByteArray) (o:Outcome):GM n (endWith w fd text o):=by
 unfold endWith
 simp only[]
 repeat' first
  | trivial
  | split
theorem TN (fr:Frame) (ahead:List ByteArray) (m:String) (whole:Bool) (w:World):GM w.drawn (dieOf fr ahead m whole w):=le_refl _
theorem oZ (fr:Frame) (m:String) (w:World):GM w.drawn (endThrow fr m w):=le_refl _
theorem uj (p:Program) (fr:Frame) (v:Value) (w:World):GM w.drawn (endPrinting p fr v w):=by
 unfold endPrinting
 simp only[]
 repeat' first
  | trivial
  | exact oZ _ _ _
  | split
theorem Af (p:Program) (fr:Frame) (callers:List Frame) (dying:Option Dying) (m:String) (w:World):GM w.drawn (endFatal p fr callers dying m w):=by
 unfold endFatal
 simp only[]
 split
 ·rename_i h; exact GM.le (df h) (TN _ _ _ _ _)
 ·trivial
 ·trivial
theorem PL (p:Program) (fr:Frame) (d:Dying) (f:Fatal) (w:World):GM w.drawn (writeOn p fr d f w):=by
 unfold writeOn
 simp only[Sem.runT_eq]
 split
 ·trivial
 ·split
  ·rename_i h; injection h with h1 h2; exact df h1
  ·rename_i h; injection h with h1 h2; exact run_halt h1
  ·trivial
  ·trivial
theorem aae (p:Program) (fr:Frame) (d:Dying) (w:World):GM w.drawn (die p fr d w):=by
 unfold die
 simp only[Sem.runT_eq]
 split
 ·exact PL _ _ _ _ _
 ·split
  ·split
   ·exact le_refl _
   ·exact OY _ _ _ _
  ·split
   ·exact le_refl _
   ·split
    ·rename_i h; exact df h
    ·trivial
   ·rw[rR]
    split
    ·rename_i h; exact df h
    ·rename_i h; exact df h
    ·trivial
    ·rename_i h; exact GM.le (run_halt h) (uj _ _ _ _)
    ·trivial
   ·trivial
theorem Vf (p:Program) (fr:Frame) (callers:List Frame) (dying:Option Dying) (g:Nat) (w:World):GM w.drawn (early p fr callers dying g w):=by
 unfold early
 simp only[]
 repeat' first
  | trivial
  | exact le_refl _
  | (refine (?_:w.drawn<=World.drawn _); exact df ‹Sem.run _ _ _=Result.ok _ _›)
  | (show w.drawn<=_; dsimp only; exact df ‹Sem.run _ _ _=Result.ok _ _›)
  | split
theorem tx (p:Program) (main:Bool) (fr:Frame) (callers:List Frame) (dying:Option Dying) (v:Value) (w:World):GM w.drawn (doReturn p main fr callers dying v w):=by
 unfold doReturn
 simp only[]
 repeat' first
  | trivial
  | exact le_refl _
  | split
theorem Bw (p:Program) (fr:Frame) (callers:List Frame) (dying:Option Dying) (d:Deferred) (w:World):GM w.drawn (callDeferred p fr callers dying d w):=by
 unfold callDeferred
 simp only[Sem.runT_eq]
 repeat' first
  | trivial
  | exact le_refl _
  | exact df ‹Sem.run _ _ _=Result.ok _ _›
  | exact GM.le (run_halt ‹Sem.run _ _ _=Result.halt _ _›) (Af _ _ _ _ _ _)
  | exact GM.le (run_halt ‹Sem.run _ _ _=Result.halt _ _›) (oZ _ _ _)
  | exact run_halt ‹Sem.run _ _ _=Result.halt _ _›
  | rw[rR]
  | split
theorem Sn (p:Program) (main:Bool) (fr:Frame) (callers:List Frame) (dying:Option Dying) (w:World):GM w.drawn (unwind p main fr callers dying w):=by
 unfold unwind
 simp only[Sem.runT_eq]
 repeat' first
  | trivial
  | exact le_refl _
  | exact df ‹Sem.run _ _ _=Result.ok _ _›
  | exact Bw _ _ _ _ _ _
  | exact uj _ _ _ _
  | exact tx _ _ _ _ _ _ _
  | exact GM.le (df ‹Sem.run _ _ _=Result.ok _ _›) (tx _ _ _ _ _ _ _)
  | exact run_halt ‹Sem.run _ _ _=Result.halt _ _›
  | rw[rR]
  | split
theorem AT (p:Program) (main listen:Bool) (fr:Frame) (callers:List Frame) (dying:Option Dying) (s:Sem Next) (w:World):GM w.drawn (stepG.apply p listen fr callers dying s w):=by
 unfold stepG.apply
 simp only[Sem.runT_eq]
 rw[rR]
 have h:RM w.drawn ((if listen=true then (s.run p w,s.events p w #[]) else (s.run p w,#[])).1):=by split<;>exact AP p s w
 generalize (if listen=true then (s.run p w,s.events p w #[]) else (s.run p w,#[])).1=r at h ⊢
 have hok:∀a w',r=.ok a w'->w.drawn<=w'.drawn:=fun a w' e=>by rw[e] at h; exact h
 have hh:∀a w',r=.halt a w'->w.drawn<=w'.drawn:=fun a w' e=>by rw[e] at h; exact h
 clear h
 repeat' first
  | trivial
  | exact hok _ _ rfl
  | exact hh _ _ rfl
  | exact GM.le (hok _ _ rfl) (oZ _ _ _)
  | exact GM.le (hh _ _ rfl) (oZ _ _ _)
  | exact GM.le (hh _ _ rfl) (Af _ _ _ _ _ _)
  | exact GM.le (hh _ _ rfl) (Vf _ _ _ _ _ _)
  | split
theorem YK (p:Program) (main listen:Bool) (fr:Frame) (callers:List Frame) (dying:Option Dying) (w:World):GM w.drawn (stepG.oper p listen fr callers dying w):=by
 unfold stepG.oper
 repeat' first
  | trivial
  | exact AT p main listen _ _ _ _ _
  | split
theorem Za (p:Program) (main listen:Bool) (fr:Frame) (callers:List Frame) (dying:Option Dying) (w:World):GM w.drawn (stepG.exec p main listen fr callers dying w):=by
 unfold stepG.exec
 simp only[Sem.runT_eq,Option.elim]
 repeat' first
  | trivial
  | exact le_refl _
  | exact YK p main listen _ _ _ _
  | exact AT p main listen _ _ _ _ _
  | exact df ‹Sem.run _ _ _=Result.ok _ _›
  | exact GM.le (df ‹Sem.run _ _ _=Result.ok _ _›) (tx _ _ _ _ _ _ _)
  | exact GM.le (df ‹Sem.run _ _ _=Result.ok _ _›) (AT p main listen _ _ _ _ _)
  | exact run_halt ‹Sem.run _ _ _=Result.halt _ _›
  | rw[rR]
  | split
theorem UQ (p:Program) (main:Bool) (g:Goroutine) (w:World) (listen:Bool):GM w.drawn (stepG p main g w listen):=by
 unfold stepG
 split
 split
 ·exact aae _ _ _ _
 ·exact Za _ _ _ _ _ _ _
 ·exact Sn _ _ _ _ _ _
end Drn
namespace Drn
open Go
def SM (n:Nat):Stepped->Prop
 | .next m=>n<=m.world.drawn
 | _=>True
theorem SM.le {m n:Nat} {s:Stepped} (h:m<=n) (g:SM n s):SM m s:=by
 cases s<;>first|exact le_trans h g|trivial
theorem EL (p:Program) (rest:Rest) (gs:Array Goroutine) (i:Nat) (g:Goroutine) (cases:Array CommCase) (blocking:Bool) (shape:CommShape) (w:World):SM w.drawn (communicate p rest gs i g cases blocking shape w).1:=by
 unfold communicate
 simp only[]
 split
 ·trivial
 split
 ·split
  ·split
   ·rename_i h
    unfold waitingAt at h
    split at h
    ·split at h
     ·injection h with h; subst h; exact le_refl _
     ·cases h
    ·injection h with h; subst h; exact le_refl _
   ·trivial
  ·exact le_refl _
 ·split
  ·trivial
  ·rename_i w' h
   have h1:=df h
   repeat' first
    | trivial
    | exact h1
    | exact le_trans h1 (run_halt ‹Sem.run _ _ _=Result.halt _ _›)
    | (refine le_trans h1 (?_:w'.drawn<=World.drawn _); dsimp only; exact df ‹Sem.run _ _ w'=Result.ok _ _›)
    | split
theorem Nt (p:Program) (gs:Array Goroutine) (rest:Rest) (w:World):SM w.drawn (look p gs rest w):=by
 unfold look
 simp only[]
 repeat' first
  | trivial
  | (show w.drawn<=_; dsimp only; exact df ‹Sem.run _ _ _=Result.ok _ _›)
  | split
theorem Og (w:World) (c:Nat):(drain w c).2.drawn=w.drawn:=by
 unfold drain; split<;>rfl
theorem zK (m:Machine) (k:Nat) (t:Timer) (a b:Nat):(retime m k t a b).2.world.drawn=m.world.drawn:=by
 unfold retime
 have e:(match t.chan with|some c=>drain m.world c|none=>(false,m.world)).2.drawn=m.world.drawn:=by
  split
  ·exact Og _ _
  ·rfl
 split
 rename_i h
 exact (congrArg (fun q:Bool × World=>q.2.drawn) h).symm.trans e
theorem J1 {m m':Machine} {op:TimerOp} {v:Value} (h:timerOp m op=.ok (v,m')):m.world.drawn<=m'.world.drawn:=by
 have named:∀(m0:Machine) (var:Addr) (f:Nat->Timer->Value × Machine),(∀k t,(f k t).2.world.drawn=m.world.drawn)->timerOp.named m var f=.ok (v,m')->m.world.drawn<=m'.world.drawn:=by
  intro m0 var f hf h
  unfold timerOp.named at h
  split at h
  ·rename_i k hk
   injection h with h
   have:=congrArg (fun q:Value × Machine=>q.2.world.drawn) h
   exact le_of_eq ((hf k _).symm.trans this)
  ·cases h
 unfold timerOp at h
 split at h
 ·split at h
  ·injection h with h; injection h with h1 h2; subst h2; exact le_refl _
  ·split at h
   ·split at h
    ·cases h
    ·injection h with h; injection h with h1 h2; subst h2; exact le_refl _
   ·cases h
 ·exact named m _ _ (fun k t=>zK _ _ _ _ _) h
 ·split at h
  ·rename_i m2 h2
   refine named m _ _ (fun k t=>(zK _ _ _ _ _).trans ?_) h
   unfold timerOp.opened at h2
   split at h2
   ·split at h2
    ·injection h2 with h2; subst h2; rfl
    ·cases h2
   ·injection h2 with h2; subst h2; rfl
  ·cases h
 ·injection h with h; injection h with h1 h2; subst h2; exact le_refl _
theorem Ys (p:Program) (m:Machine) (i:Nat) (b:Bool):SM m.world.drawn (runT p m i b).1:=by
 simp only[runT]
 generalize m.gs.swapAt! _ _=gg
 have h:=UQ p (i == 0) gg.1 m.world b
 generalize stepG p _ gg.1 m.world b=s at h ⊢
 cases s<;>simp only[]
 all_goals repeat' first
  | trivial
  | exact h
  | exact SM.le h (EL _ _ _ _ _ _ _ _ _)
  | exact SM.le h (Nt _ _ _ _)
  | (refine le_trans h ?_; exact J1 ‹timerOp _ _=Except.ok _›)
  | split
theorem U0 (p:Program) (m:Machine) (k:Nat):SM m.world.drawn (serve p m k):=by
 unfold serve
 simp only[]
 repeat' first
  | trivial
  | exact le_refl _
  | split
def VM (n:Nat):Move->Prop
 | .goroutine m _=>n<=m.world.drawn
 | .machine s _=>SM n s
theorem VM.le {m n:Nat} {s:Move} (h:m<=n) (g:VM n s):VM m s:=by
 cases s with
 | goroutine=>exact le_trans h g
 | machine s _=>exact SM.le h g
theorem AU (p:Program) (m:Machine):VM m.world.drawn (askOn p m):=by
 unfold askOn
 simp only[]
 split
 ·trivial
 rename_i k w h
 have h1:=df h
 repeat' first
  | trivial
  | exact h1
  | exact SM.le h1 (U0 _ _ _)
  | exact le_trans h1 (df ‹Sem.run _ _ _=Result.ok _ _›)
  | exact le_trans h1 (le_trans (df ‹Sem.run _ _ _=Result.ok _ _›) (df ‹Sem.run _ (choose (Question.extern "sched.slice" _)) _=Result.ok _ _›))
  | (have a:=df ‹Sem.run _ (choose (Question.extern "clock.wait" _)) _=Result.ok _ _›; have b:=df ‹Sem.run _ (choose (Question.sched _)) _=Result.ok _ _›; have c:=df ‹Sem.run _ (choose (Question.extern "sched.slice" _)) _=Result.ok _ _›; exact le_trans h1 (le_trans a (le_trans b c)))
  | (have a:=df ‹Sem.run _ (choose (Question.extern "clock.wait" _)) _=Result.ok _ _›; have b:=df ‹Sem.run _ (choose (Question.sched _)) _=Result.ok _ _›; exact le_trans h1 (le_trans a b))
  | (have a:=df ‹Sem.run _ (choose (Question.extern "clock.wait" _)) _=Result.ok _ _›; exact le_trans h1 a)
  | split
theorem aa2 (p:Program) (m:Machine):VM m.world.drawn (ask p m):=by
 unfold ask
 split
 ·split
  ·trivial
  ·rename_i h
   have h1:=df h
   have h2:=Nt p m.gs m.rest ‹World›
   split
   ·rename_i h3
    rw[h3] at h2
    exact VM.le (le_trans h1 h2) (AU _ _)
   ·exact SM.le h1 h2
  ·rename_i h
   exact VM.le (df h) (AU _ _)
 ·exact AU _ _
theorem X7 (p:Program) (m:Machine):VM m.world.drawn (move p m):=by
 unfold move
 repeat' first
  | trivial
  | exact le_refl _
  | exact aa2 _ _
  | split
theorem Sw {p:Program} {m m':Machine} (h:step p m=.next m'):m.world.drawn<=m'.world.drawn:=by
 unfold step stepT at h
 have h1:=X7 p m
 split at h
 ·rename_i h2
  rw[h2] at h1
  have h3:=Ys p ‹Machine› ‹Nat› true
  rw[h] at h3
  exact le_trans h1 h3
 ·rename_i h2
  rw[h2] at h1
  simp only at h
  rw[h] at h1
  exact h1
theorem Fv (p:Program):∀(n:Nat) (m m':Machine),runN p n m=.next m'->m.world.drawn<=m'.world.drawn
 | 0,m,m',h=>by
  unfold runN at h
  injection h with h
  rw[h]; exact le_refl _
 | n+1,m,m',h=>by
  unfold runN at h
  split at h
  ·rename_i h2
   exact le_trans (Sw h2) (Fv p n _ _ h)
  ·rename_i h2
   exact absurd h (by intro h; first|exact h2 _ h|cases h)
theorem Cd {p:Program} {m m':Machine} (h:Steps p m m'):m.world.drawn<=m'.world.drawn:=by
 obtain⟨n,h⟩:=h
 exact Fv p n _ _ h
theorem CO {P:Program} {f:FuncId} {args:Array Value} {w:World} {R:Ending->World->Prop} (h:Calls P f args w R) (hr:∀e w',R e w'->e ≠ .outgrown):Calls P f args w fun e w'=>R e w'/\w.drawn<=w'.drawn:=by
 intro cs
 obtain⟨e,w',fr,h1,h2,h3⟩:=h cs
 refine⟨e,w',fr,⟨h1,?_⟩,h2,h3⟩
 have he:=hr e w' h1
 cases e with
 | outgrown=>exact absurd rfl he
 | returned v=>exact Cd h2
 | panicked c=>exact Cd h2
end Drn

namespace DW
open Go.RowKit Go.Sort
structure Hd (t:Ty) (Pr:t.den->Prop) (w:World) (g:Nat) where
 cs:List Value
 x:t.den
 fp:List Nat
 rep:t.rp.rep w cs x fp
 ne:g ∉ fp
 ok:Pr x
section
variable {t:Ty} {Pr:t.den->Prop} {w:World} {g:Nat}
theorem Hd.len (y:Hd t Pr w g):y.cs.length=t.rp.size:=t.rp.len y.rep
theorem Hd.one (y:Hd t Pr w g):∀v ∈ y.cs,v.oneCell'=true:=t.rp.one y.rep
theorem Hd.at (y:Hd t Pr w g) {j:Nat} (h:j < t.rp.size):y.cs[j]? = some (y.cs[j]!):=by
 have:=y.len
 rw[getElem!_pos y.cs j J,getElem?_eq_getElem J]
theorem HY [Inhabited (Hd t Pr w g)] (d:List (Hd t Pr w g)) {j:Nat} (h:j < d.length * t.rp.size):(flatK Hd.cs t.rp.size d.toArray)[j]! = ((d[j / t.rp.size]'(Nat.div_lt_of_lt_mul (by rw[mul_comm]; exact h))).cs)[j % t.rp.size]!:=by
 rw[get_flatK Hd.cs t.rp.size d.toArray j (by simpa using h)]
 rw[getElem!_pos d.toArray (j / t.rp.size) (by simpa using Nat.div_lt_of_lt_mul (by rw[mul_comm]; exact h))]
 rfl
theorem Er {base:Nat} {e:TypeId} {v:Value} {l:List t.den} {fps:List (List Nat)} (h:bh t.rp base w e v l fps) (h0:0 < l.length) (hn:∀b ∈ fps.flatten,v.ownBlock ≠ some b) (hP:∀x ∈ l,Pr x) :
  ∃g cap cur,v=.slice (some ⟨g,0,none⟩) l.length cap/\base<=g/\w.heap[g]? = some (.cells cur e (0,0))/\l.length<=cap/\cap<=maxLen/\cur.size=cap * t.rp.size/\∃d:List (Hd t Pr w g),d.map Hd.x=l/\(∀y ∈ d,∀b ∈ y.fp,b ∈ fps.flatten) ∧
   ∀ [Inhabited (Hd t Pr w g)],HoldsK Hd.cs t.rp.size w g 0 d.toArray:=by
 obtain⟨xs,⟨hxl,hor⟩,hfl,he⟩:=h
 rcases hor with ⟨_,hn0⟩|⟨g,cap,cur,hv,hb,hg,hnc,hcm,hcs,htk⟩
 ·omega
 have hob:v.ownBlock=some g:=by rw[hv]; rfl
 have hc:∀i:Fin l.length,∃y:Hd t Pr w g,y.x=l[i]/\(∀b ∈ y.fp,b ∈ fps.flatten)/\∀j c,y.cs[j]? = some c->xs[i.1 * t.rp.size+j]? = some c:=by
  intro i
  obtain⟨f,cs,h1,h2,h3⟩:=he i.1 l[i] (getElem?_eq_getElem i.2)
  have hf:∀b ∈ f,b ∈ fps.flatten:=fun b hb=>mem_flatten.2 ⟨f,List.mem_of_getElem? h1,hb⟩
  exact⟨⟨cs,l[i],f,h2,fun hm=>hn g (hf g hm) hob,hP _ (getElem_mem i.2)⟩,rfl,hf,h3⟩
 obtain⟨F,hF⟩:∃F:Fin l.length->Hd t Pr w g,∀i:Fin l.length,(F i).x=l[i]/\(∀b ∈ (F i).fp,b ∈ fps.flatten)/\∀j c,(F i).cs[j]? = some c->xs[i.1 * t.rp.size+j]? = some c:=⟨fun i=>Classical.choose (hc i),fun i=>Classical.choose_spec (hc i)⟩
 clear hc
 refine⟨g,cap,cur,hv,hb,hg,hnc,hcm,hcs,List.ofFn F,?_,?_,?_⟩
 ·refine List.ext_getElem ah fun i h1 h2=>?_
  rw[getElem_map,List.getElem_ofFn]
  exact (hF ⟨i,h2⟩).1
 ·intro y hy b hb
  obtain⟨i,rfl⟩:=(List.mem_ofFn).1 hy
  exact (hF i).2.1 b hb
 ·intro _ j hj
  have hj2:j < l.length * t.rp.size:=by simpa using hj
  have hsz:=t.pos
  have hd2:j / t.rp.size < l.length:=Nat.div_lt_of_lt_mul (by rw[mul_comm]; exact hj2)
  refine⟨?_,frozen_of_row w g _ cur e hg⟩
  rw[zero_add,cell_of_row w g j cur e (0,0) hg,<-getElem?_toList]
  show _=some ((flatK Hd.cs t.rp.size _)[j]!)
  rw[HY _ (by simpa using hj2)]
  have hm:=mod_lt j hsz
  have:=(hF ⟨j / t.rp.size,hd2⟩).2.2 (j % t.rp.size) _ (Hd.at _ hm)
  rw[show (⟨j / t.rp.size,hd2⟩:Fin l.length).1 * t.rp.size+j % t.rp.size=j by rw[mul_comm]; exact Nat.div_add_mod _ _,<-htk,getElem?_take,if_pos (by rw[<-hxl]; simpa [hxl] using hj2)] at this
  rw[this,List.getElem_ofFn]
theorem xg [Inhabited (Hd t Pr w g)] (n:Nat) (d:Array (Hd t Pr w g)) (os:Array Obj):ep (fun x=>x=g) w.heap.size w (sortWorldK Hd.cs t.rp.size w g 0 n d os):=by
 refine⟨rfl,rfl,rfl,?_,fun k hk hne=>?_⟩
 ·rw[sortWorldK,size_grow]
  have:(putRowK Hd.cs t.rp.size (Sort.ahead w n) g 0 d).heap.size=w.heap.size:=by unfold putRowK; rw[size_putRow]; rfl
  omega
 ·have hkg:¬ g=k:=fun h=>hne h.symm
  unfold sortWorldK putRowK putRow mapBlock grow
  simp only[heap_ahead]
  rw[Array.getElem?_append_left (by rw[size_modify]; exact hk),getElem?_modify,if_neg hkg]
theorem Hd.keep [Inhabited (Hd t Pr w g)] (y:Hd t Pr w g) {w':World} (h:ep (fun x=>x=g) w.heap.size w w'):t.rp.rep w' y.cs y.x y.fp :=
 t.rp.frame y.rep fun b hb=>h.block b (t.rp.lt y.rep b hb) fun e=>y.ne (e ▸ hb)
theorem AL [Inhabited (Hd t Pr w g)] {base:Nat} {w':World} {e:TypeId} {cap n:Nat} {cur:Array Value} {os:Array Obj} {d:List (Hd t Pr w g)} (hb:base<=g) (hg:w.heap[g]? = some (.cells cur e (0,0))) (hcs:cur.size=cap * t.rp.size) (hcm:cap<=maxLen) (hd:d.length<=cap) (m:Nat) (hm:m<=d.length)
  (hw:w'=sortWorldK Hd.cs t.rp.size w g 0 n d.toArray os) :
  bh t.rp base w' e (.slice (some ⟨g,0,none⟩) m cap) ((d.take m).map Hd.x) ((d.take m).map Hd.fp)/\w.grownBy w' (some g):=by
 have hgs:g < w.heap.size:=(Array.getElem?_eq_some_iff.1 hg).1
 have hsz:=t.pos
 have hg':w'.heap[g]? = some (.cells (Go.Sort.putCells id 0 (flatK Hd.cs t.rp.size d.toArray) cur) e (0,0)):=by
  subst hw
  unfold sortWorldK putRowK putRow mapBlock grow
  simp only[heap_ahead]
  rw[Array.getElem?_append_left (by rw[size_modify]; exact hgs),getElem?_modify,if_pos rfl,hg]
  rfl
 have hlt:((d.take m).map Hd.x).length=m:=by rw[length_map,length_take]; omega
 have hmul:d.length * t.rp.size<=cap * t.rp.size:=mul_le_mul_right _ hd
 have hmul2:m * t.rp.size<=d.length * t.rp.size:=mul_le_mul_right _ hm
 have hcell:∀j,j < d.length * t.rp.size->(Go.Sort.putCells id 0 (flatK Hd.cs t.rp.size d.toArray) cur).toList[j]? = some ((flatK Hd.cs t.rp.size d.toArray)[j]!):=by
  intro j hj
  rw[getElem?_toList]
  unfold Go.Sort.putCells
  rw[Array.getElem?_mapIdx,Array.getElem?_eq_getElem (by omega:j < cur.size),map_some,if_pos ⟨zero_le _,by rw[size_flatK]; simpa using hj⟩]
  rfl
 have hps:(Go.Sort.putCells id 0 (flatK Hd.cs t.rp.size d.toArray) cur).size=cap * t.rp.size:=by unfold Go.Sort.putCells; rw[Array.size_mapIdx,hcs]
 have hbx:ep (fun x=>x=g) w.heap.size w w':=by rw[hw]; exact xg _ _ _
 refine⟨⟨(Go.Sort.putCells id 0 (flatK Hd.cs t.rp.size d.toArray) cur).toList.take (m * t.rp.size),⟨?_,.inr ⟨g,cap,_,?_,hb,hg',?_,hcm,hps,?_⟩⟩,?_,fun i x hx=>?_⟩,⟨hbx.os,hbx.tape,hbx.output,hbx.size,fun k hk hne=>hbx.block k hk fun h=>hne (by rw[h])⟩⟩
 ·rw[hlt,length_take,length_toList,hps]; omega
 ·rw[hlt]
 ·rw[hlt]; omega
 ·rw[hlt]
 ·rw[hlt,length_map,length_take]; omega
 ·rw[List.getElem?_map] at hx
  obtain⟨y,hy,rfl⟩:=Option.map_eq_some_iff.1 hx
  have hi:i < m:=by have:=(List.getElem?_eq_some_iff.1 hy).1; rw[length_take] at this; omega
  rw[getElem?_take,if_pos hi] at hy
  obtain⟨hid,hy⟩:=List.getElem?_eq_some_iff.1 hy
  subst hy
  refine⟨(d[i]).fp,(d[i]).cs,?_,(d[i]).keep hbx,fun j v hj=>?_⟩
  ·rw[List.getElem?_map,getElem?_take,if_pos hi,getElem?_eq_getElem hid]; rfl
  ·have hj2:j < t.rp.size:=by have:=(List.getElem?_eq_some_iff.1 hj).1; rw[(d[i]).len] at this; exact this
   have hij:i * t.rp.size+j < m * t.rp.size:=by
    have:(i+1) * t.rp.size<=m * t.rp.size:=mul_le_mul_right _ hi
    rw[succ_mul] at this; omega
   rw[getElem?_take,if_pos hij,hcell _ J,HY d J]
   have e1:(i * t.rp.size+j) / t.rp.size=i:=by rw[Nat.add_comm,Nat.add_mul_div_right _ _ hsz,Nat.div_eq_of_lt hj2,zero_add]
   have e2:(i * t.rp.size+j) % t.rp.size=j:=by rw[Nat.add_comm,Nat.add_mul_mod_self_right,Nat.mod_eq_of_lt hj2]
   simp only[e1,e2]
   rw[<-Hd.at _ hj2,hj]
theorem grown_of {W w':World} (h:Below W.heap.size W w') (hd:W.drawn<=w'.drawn):∃q os',w'=grow (W.drewN q) os':=by
 obtain⟨p,rfl⟩:=regrown_of_below h
 refine⟨p.d - W.drawn,p.os,?_⟩
 have:W.drawn<=p.d:=hd
 have e:W.drawn+(p.d - W.drawn)=p.d:=J
 show grow { W with drawn:=p.d } p.os=grow { W with drawn:=W.drawn+(p.d - W.drawn) } p.os
 rw[e]
theorem Fn.cmp {P:Program} {f:FuncId} {x y:t.den} {n:Int} (hag:t.isAgg=true) (h:Fn P f [⟨t,x⟩,⟨t,y⟩] false [⟨.int,n⟩]) {W:World} {cs ds:List Value} {f1 f2:List Nat} (hG:Gw P W) (h1:t.rp.rep W cs x f1) (h2:t.rp.rep W ds y f2) :
  Calls P f #[.agg cs.toArray,.agg ds.toArray] W fun e w'=>e=.returned (.int .i64 n)/\∃q os',w'=grow (W.drewN q) os':=by
 have hc:=h.2 W [.agg cs.toArray,.agg ds.toArray] (fun _=>True) hG ⟨⟨f1,⟨cs,.inl ⟨hag,rfl⟩,h1⟩,fun _ _=>trivial⟩,⟨f2,⟨ds,.inl ⟨hag,rfl⟩,h2⟩,fun _ _=>trivial⟩,trivial⟩
 have hc2:Calls P f #[.agg cs.toArray,.agg ds.toArray] W fun e w'=>e=.returned (.int .i64 n)/\Below W.heap.size W w':=hc.mono fun e w' ⟨hb,v,he,fp,⟨us,hp,hr⟩,_⟩=>by
  refine⟨?_,hb⟩
  rcases hp with ⟨h,_⟩|⟨_,rfl⟩
  ·cases h
  ·rw[he,List.cons.inj hr.1 |>.1]
 exact (Drn.CO hc2 fun e w' h=>by rw[h.1]; exact fun h=>by cases h).mono fun e w' ⟨⟨h1,h2⟩,h3⟩=>⟨h1,grown_of h2 h3⟩
theorem I9 [Inhabited (Hd t Pr w g)] {P:Program} {F:FuncId} {cf:t.den->t.den->Int} (hag:t.isAgg=true) (hF:∀x y,Pr x->Pr y->Fn P F [⟨t,x⟩,⟨t,y⟩] false [⟨.int,cf x y⟩]) {size:Nat} (hG:Gw P w) (hne:∀g',P.globalNamed gH=some g'->g ≠ g'):CmpLays P F #[] Hd.cs t.rp.size (fun x y:Hd t Pr w g=>cf x.x y.x) g 0 size w:=by
 intro m os dk _ x y
 have hbx:=xg (w:=w) (g:=g) m dk os
 have hW:Gw P (sortWorldK Hd.cs t.rp.size w g 0 m dk os):=hG.Mk hbx fun g' h=>⟨(hG g' h).1,fun e=>hne g' h e.symm⟩
 exact (hF x.x y.x x.ok y.ok).cmp hag hW (x.keep hbx) (y.keep hbx)
end
end DW

namespace DW
open Go.RowKit Go.Sort Go.Shelf
section
variable {α β:Type} [Inhabited α] [Inhabited β] (f:α->β)
theorem mA {d:Array α} {j:Nat} (h:j < d.size):(d.map f)[j]! = f d[j]!:=by
 rw[getElem!_pos (d.map f) j (by simpa using h),getElem!_pos d j h,Array.getElem_map]
theorem Yy {d:Array α} {i j:Nat} (hi:i < d.size) (hj:j < d.size):(swp d i j).map f=swp (d.map f) i j:=by
 unfold swp
 rw[mA f hi,mA f hj]
 rw[Array.map_setIfInBounds,Array.map_setIfInBounds]
theorem mg (lt:α->α->Bool) (a:Nat):∀(j:Nat) (d:Array α),(insInner lt a j d).size=d.size
 | 0,_=>rfl
 | j+1,d=>by
  rw[insInner]
  split
  ·rw[mg lt a j,size_swp]
  ·rfl
theorem wC (lt:α->α->Bool) (a b:Nat):∀(n i:Nat) (d:Array α),b - i=n->(insOuter lt a b i d).size=d.size
 | 0,i,d,h=>by rw[insOuter,if_neg J]
 | n+1,i,d,h=>by rw[insOuter,if_pos J,wC lt a b n (i+1) _ J,mg]
theorem pE (lt:α->α->Bool) (a b:Nat) (d:Array α):(insertionSort lt d a b).size=d.size:=wC lt a b _ _ d rfl
theorem x9 (lt:β->β->Bool) (a:Nat):∀(j:Nat) (d:Array α),j < d.size->(insInner (fun x y=>lt (f x) (f y)) a j d).map f=insInner lt a j (d.map f)
 | 0,_,_=>rfl
 | j+1,d,h=>by
  rw[insInner,insInner,mA f h,mA f J]
  split
  ·rw[x9 lt a j _ (by rw[size_swp]; omega),Yy f h J]
  ·rfl
theorem xL (lt:β->β->Bool) (a b:Nat):∀(n i:Nat) (d:Array α),b - i=n->b<=d.size->(insOuter (fun x y=>lt (f x) (f y)) a b i d).map f=insOuter lt a b i (d.map f)
 | 0,i,d,h,_=>by
  rw[insOuter,if_neg J]
  conv=>rhs; rw[insOuter,if_neg J]
 | n+1,i,d,h,hb=>by
  rw[insOuter,if_pos J,xL lt a b n (i+1) _ J (by rw[mg]; exact hb),x9 f lt a i d J]
  conv=>rhs; rw[insOuter,if_pos J]
theorem zr (lt:β->β->Bool) (a b:Nat) (d:Array α) (hb:b<=d.size):(insertionSort (fun x y=>lt (f x) (f y)) d a b).map f=insertionSort lt (d.map f) a b:=xL f lt a b _ _ d rfl hb
theorem Yd {d:Array α} {i j:Nat} (hi:i < d.size) (hj:j < d.size) {x:α} (h:x ∈ swp d i j):x ∈ d:=by
 unfold swp at h
 rcases Array.mem_or_eq_of_mem_setIfInBounds h with h|h
 ·rcases Array.mem_or_eq_of_mem_setIfInBounds h with h|h
  ·exact h
  ·rw[h,getElem!_pos d j hj]; exact Array.getElem_mem hj
 ·rw[h,getElem!_pos d i hi]; exact Array.getElem_mem hi
theorem xx (lt:α->α->Bool) (a:Nat) {x:α}:∀(j:Nat) (d:Array α),j < d.size->x ∈ insInner lt a j d->x ∈ d
 | 0,_,_,h=>h
 | j+1,d,hj,h=>by
  rw[insInner] at h
  split at h
  ·exact Yd hj J (xx lt a j _ (by rw[size_swp]; omega) h)
  ·exact h
theorem rV (lt:α->α->Bool) (a b:Nat) {x:α}:∀(n i:Nat) (d:Array α),b - i=n->b<=d.size->x ∈ insOuter lt a b i d->x ∈ d
 | 0,i,d,h,_,hx=>by rwa [insOuter,if_neg J] at hx
 | n+1,i,d,h,hb,hx=>by
  rw[insOuter,if_pos J] at hx
  exact xx lt a i d J (rV lt a b n (i+1) _ J (by rw[mg]; exact hb) hx)
end
def mv (t:Ty) (cf:t.den->t.den->Int) (l:List t.den):List t.den :=
 letI:Inhabited t.den:=⟨t.zero⟩
 (insertionSort (ltOf cf) l.toArray 0 l.length).toList
theorem Bh (t:Ty) (cf:t.den->t.den->Int) (l:List t.den):(mv t cf l).length=l.length:=by
 letI:Inhabited t.den:=⟨t.zero⟩
 show (insertionSort (ltOf cf) l.toArray 0 l.length).toList.length=_
 rw[length_toList,pE,size_toArray]
theorem uU {t:Ty} {cf:t.den->t.den->Int} {l:List t.den} {x:t.den} (h:x ∈ mv t cf l):x ∈ l:=by
 letI:Inhabited t.den:=⟨t.zero⟩
 have h:x ∈ (insertionSort (ltOf cf) l.toArray 0 l.length).toList:=h
 rw[Array.mem_toList_iff] at h
 have:=rV (ltOf cf) 0 l.length _ _ l.toArray rfl ah h
 simpa using this
def E0 (P:Program) (f:FuncId) (e:TypeId) (t:Ty) (l l':List t.den) (zs:List Value):Prop :=
 ∀(w:World) (base:Nat) (v:Value) (fps:List (List Nat)),Gw P w->(∀b ∈ fps.flatten,v.ownBlock ≠ some b)->(∀g,v.ownBlock=some g->∀g',P.globalNamed gH=some g'->g ≠ g')->bh t.rp base w e v l fps →
  Calls P f (v :: zs).toArray w fun en w'=>∃fps',en=.returned (.tuple #[])/\bh t.rp base w' e v l' fps'/\w.grownBy w' v.ownBlock/\∀b ∈ fps'.flatten,b ∈ fps.flatten
theorem kl.ofRaw {P:Program} {f:FuncId} {xs:List lC} {e:TypeId} {t:Ty} {l l':List t.den} (he:∀vs w,(callFunc f vs).run P w=.ok (.enter f vs) w) (h:E0 P f e t l l' (xs.map lC.val)):kl P f xs e t l l' false :=
 ⟨he,fun w base v fps hG hn ht hone hg=>(h w base v fps hG hn ht hg).mono fun en w' ⟨fps',h1,h2,h3,h4⟩=>⟨v,fps',h1,fun _=>rfl,hone,rfl,h2,h3,h4⟩⟩
theorem qC {t:Ty} {base:Nat} {w:World} {e:TypeId} {v:Value} {l:List t.den} {fps:List (List Nat)} (h:bh t.rp base w e v l fps):∃ad c,v=.slice ad l.length c:=by
 obtain⟨xs,⟨_,ho⟩,_⟩:=h
 rcases ho with ⟨rfl,h0⟩|⟨g,cap,cur,rfl,_⟩
 ·exact⟨none,0,by rw[h0]⟩
 ·exact⟨_,cap,rfl⟩
section
variable {P:Program} {ρ:Ren} {t:Ty} {Pr:t.den->Prop} {F:FuncId} {cf:t.den->t.den->Int}
theorem SF (L:SlLaysF0.n20 P ρ) (he:∀vs w,(callFunc (ρ.f 20) vs).run P w=.ok (.enter (ρ.f 20) vs) w) (hf:∀vs w,(callFunc F vs).run P w=.ok (.enter F vs) w) (hag:t.isAgg=true) (aE:∀w,(isAgg (ρ.t 24)).run P w=.ok true w) (zE:∀w,(Go.sizeOf (ρ.t 24)).run P w=.ok t.rp.size w)
  (hF:∀x y,Pr x->Pr y->Fn P F [⟨t,x⟩,⟨t,y⟩] false [⟨.int,cf x y⟩]) {e:TypeId} {l:List t.den} (hP:∀x ∈ l,Pr x) (hl:l.length < 4611686018427387904) :
  E0 P (ρ.f 20) e t l (mv t cf l) [.int .i64 0,.int .i64 l.length,.func (.func F) #[] #[]]:=by
 intro w base v fps hG hown htab hg
 cases hl0:l with
 | nil =>
  subst hl0
  rw[show mv t cf []=[] from List.eq_nil_of_length_eq_zero (Bh t cf [])]
  obtain⟨xs,⟨hxl,hor⟩,hfl,hee⟩:=hg
  have key:∀p cap,v=.slice p 0 cap->Calls P (ρ.f 20) #[v,.int .i64 0,.int .i64 0,.func (.func F) #[] #[]] w fun en w'=>∃fps',en=.returned (.tuple #[])/\bh t.rp base w' e v ([]:List t.den) fps'/\w.grownBy w' v.ownBlock/\∀b ∈ fps'.flatten,b ∈ fps.flatten:=by
   rintro p cap rfl
   refine (AnyF.insertionSortCmpFunc_none L p cap (.func (.func F) #[] #[]) w).mono ?_
   rintro en w' ⟨rfl,rfl⟩
   exact⟨fps,rfl,⟨xs,⟨hxl,hor⟩,hfl,hee⟩,⟨rfl,rfl,rfl,le_refl _,fun _ _ _=>rfl⟩,fun _ h=>h⟩
  rcases hor with ⟨hv,_⟩|⟨g,cap,cur,hv,_⟩
  ·exact key _ _ hv
  ·exact key _ _ hv
 | cons x0 l0 =>
  rw[<-hl0]
  have h0:0 < l.length:=by rw[hl0]; exact Nat.succ_pos _
  obtain⟨g,cap,cur,rfl,hb,hgg,hnc,hcm,hcs,d,hdx,hdf,hH⟩:=Er (Pr:=Pr) hg h0 hown hP
  have hdl:d.length=l.length:=by rw[<-hdx,length_map]
  letI:Inhabited (Hd t Pr w g):=⟨d[0]'J⟩
  letI:Inhabited t.den:=⟨t.zero⟩
  have hgs:g < w.heap.size:=(Array.getElem?_eq_some_iff.1 hgg).1
  have hsz:d.toArray.size=l.length:=by rw[size_toArray,hdl]
  have hc:=AnyQ.insertionSortCmpFunc L t.rp.size aE zE (Hd.cs (t:=t) (Pr:=Pr) (w:=w) (g:=g)) Hd.len Hd.one (fun x y=>cf x.x y.x) F #[] g 0 cap 0 l.length d.toArray w hf (I9 hag hF hG (htab g rfl)) hH hgs (zero_le _) J J
  rw[hsz] at hc
  refine Calls.mono hc ?_
  rintro en w' ⟨rfl,n,os,rfl⟩
  generalize hdd:insertionSort (ltOf fun x y:Hd t Pr w g=>cf x.x y.x) d.toArray 0 l.length=dd
  have hds:dd.size=l.length:=by rw[<-hdd,pE,hsz]
  have hdl2:dd.toList.length=l.length:=by rw[length_toList,hds]
  have hmap:dd.toList.map Hd.x=mv t cf l:=by
   have:=zr (Hd.x (t:=t) (Pr:=Pr) (w:=w) (g:=g)) (ltOf cf) 0 l.length d.toArray J
   have e1:d.toArray.map Hd.x=l.toArray:=by rw[List.map_toArray,hdx]
   rw[e1] at this
   show _=(insertionSort (ltOf cf) l.toArray 0 l.length).toList
   rw[<-this,<-hdd,toList_map]
   rfl
  obtain⟨k1,k2⟩:=AL (base:=base) (n:=n) (os:=os) (d:=dd.toList) hb hgg hcs hcm (le_trans (le_of_eq hdl2) hnc) l.length (le_of_eq hdl2.symm) rfl
  rw[take_of_length_le (le_of_eq hdl2)] at k1
  refine⟨_,rfl,hmap ▸ k1,k2,fun b hb=>?_⟩
  obtain⟨ff,hff,hbf⟩:=mem_flatten.1 hb
  obtain⟨y,hy,rfl⟩:=mem_map.1 hff
  refine hdf y ?_ b hbf
  rw[Array.mem_toList_iff,<-hdd] at hy
  have:=rV _ 0 l.length _ _ d.toArray rfl J hy
  simpa using this
end
end DW

namespace DW
open Go.RowKit Go.Shelf
def Ur:Go.Shelf.Ren:=⟨fun|20=>302|n=>n,fun|0=>0|3=>3|4=>4|22=>239|24=>231|25=>243|n=>n,fun n=>n⟩
theorem acW:SlLaysF0.n20 prog Ur where
 mixed:=by kernel_rfl
 f20:=⟨"slices.insertionSortCmpFunc[loop.example/g00811/impl.border]",ae,func302.trans (congrArg some ai)⟩
 t0:=Tryz.underlying0
 a0:=Tryz.isAgg0
 z0:=Tryz.sizeOf0
 v0:=Tryz.zeroValue0
 t3:=Tryz.underlying3
 a3:=Tryz.isAgg3
 z3:=Tryz.sizeOf3
 v3:=Tryz.zeroValue3
 t4:=Tryz.underlying4
 a4:=Tryz.isAgg4
 z4:=Tryz.sizeOf4
 v4:=Tryz.zeroValue4
 t22:=Tryz.underlying239
 a22:=Tryz.isAgg239
 z22:=Tryz.sizeOf239
 v22:=Tryz.zeroValue239
 t25:=Tryz.underlying243
 a25:=Tryz.isAgg243
 z25:=Tryz.sizeOf243
 v25:=Tryz.zeroValue243
def Tx:Go.Shelf.Ren:=⟨fun|20=>345|n=>n,fun|0=>0|3=>3|4=>4|22=>235|24=>238|25=>297|n=>n,fun n=>n⟩
theorem acT:SlLaysF0.n20 prog Tx where
 mixed:=by kernel_rfl
 f20:=⟨"slices.insertionSortCmpFunc[loop.example/g00811/impl.block]",ae,func345.trans (congrArg some ai)⟩
 t0:=Tryz.underlying0
 a0:=Tryz.isAgg0
 z0:=Tryz.sizeOf0
 v0:=Tryz.zeroValue0
 t3:=Tryz.underlying3
 a3:=Tryz.isAgg3
 z3:=Tryz.sizeOf3
 v3:=Tryz.zeroValue3
 t4:=Tryz.underlying4
 a4:=Tryz.isAgg4
 z4:=Tryz.sizeOf4
 v4:=Tryz.zeroValue4
 t22:=Tryz.underlying235
 a22:=Tryz.isAgg235
 z22:=Tryz.sizeOf235
 v22:=Tryz.zeroValue235
 t25:=Tryz.underlying297
 a25:=Tryz.isAgg297
 z25:=Tryz.sizeOf297
 v25:=Tryz.zeroValue297
abbrev DK:=dK.den
def gF (r:DR):Prop:=oD (aw r)=r
theorem iu {x:Option Rat} (h:aY x):gF (oD x):=by unfold gF; rw[gr h]
def gB (x:DP):Prop:=gF x.1/\gF x.2
def gK (x:DK):Prop:=gB x.1/\gB x.2
def lvl (x:DP):Option Rat:=bX (aw x.1) (aw x.2)
theorem zd (x:DP):aY (lvl x):=fS _ _
def qg (x y:DP):Bool:=decide (0 < bG (lvl x) (lvl y))
def H0 (x y:DP):Int:=bG (aw x.1) (aw y.1)
def KF (x y:DK):Int:=bG (lvl x.1) (lvl y.1)
theorem uQ (x:DP) (hx:gB x):Fn prog 261 [⟨ax,x⟩] true [⟨au,oD (lvl x)⟩]:=by
 have c:=er (aw x.1) (aw x.2) (aI _) (aI _)
 rw[hx.1,hx.2] at c
 unfold lvl
 obtain⟨a,b⟩:=x
 refine fe func261 ntmps261 results261 fun hwf=>?_
 refine Sz ?_
 refine cw c ?_
 all_goals exact Fz
theorem qK (x y:DP) (hx:gB x) (hy:gB y):Fn prog 193 [⟨ax,x⟩,⟨ax,y⟩] false [⟨.bool,qg x y⟩]:=by
 have c1:=uQ x hx
 have c2:=uQ y hy
 have c3:=bR (lvl x) (lvl y) (zd _) (zd _)
 unfold qg
 generalize lvl x=p at *
 generalize lvl y=q at *
 obtain⟨a,b⟩:=x
 obtain⟨d,e⟩:=y
 refine fe func193 ntmps193 results193 fun hwf=>?_
 refine Cz c1 ?_
 refine cw c2 ?_
 refine Sz ?_
 refine cw c3 ?_
 all_goals exact Fz
theorem Mh (y:Int):Fn prog 191 [⟨.int,y⟩] true [⟨ax,(oD (aV y),oD (aV y))⟩]:=by
 have c:=fw y
 refine fe func191 ntmps191 results191 fun hwf=>?_
 refine Cz c ?_
 refine cw c ?_
 all_goals exact Fz
theorem KP (x y:DP) (hx:gB x) (hy:gB y):Fn prog 197 [⟨ax,x⟩,⟨ax,y⟩] false [⟨.int,H0 x y⟩]:=by
 have c:=bR (aw x.1) (aw y.1) (aI _) (aI _)
 rw[hx.1,hy.1] at c
 unfold H0
 obtain⟨a,b⟩:=x
 obtain⟨d,e⟩:=y
 refine fe func197 ntmps197 results197 fun hwf=>?_
 refine Sz ?_
 refine cw c ?_
 all_goals exact Fz
theorem HC (x y:DK) (hx:gK x) (hy:gK y):Fn prog 263 [⟨dK,x⟩,⟨dK,y⟩] false [⟨.int,KF x y⟩]:=by
 have c1:=uQ x.1 hx.1
 have c2:=uQ y.1 hy.1
 have c3:=bR (lvl x.1) (lvl y.1) (zd _) (zd _)
 unfold KF
 generalize lvl x.1=p at *
 generalize lvl y.1=q at *
 obtain⟨⟨a,b⟩,k⟩:=x
 obtain⟨⟨d,e⟩,l⟩:=y
 refine fe func263 ntmps263 results263 fun hwf=>?_
 refine Cz c1 ?_
 refine cw c2 ?_
 refine Sz ?_
 refine cw c3 ?_
 all_goals exact Fz
theorem Lt (l:List DP) (hl:l.length < 20) (hP:∀x ∈ l,gB x):E0 prog 265 231 ax l (mv ax H0 l) [.int .i64 l.length,.func (.func 197) #[] #[]]:=by
 intro w base v fps hG hn ht hg
 have hins:E0 prog 302 231 ax l (mv ax H0 l) [.int .i64 0,.int .i64 l.length,.func (.func 197) #[] #[]] :=
  SF (t:=ax) acW (enters_of func302 ai rfl) (enters_of func197 ai rfl) rfl Tryz.isAgg231 Tryz.sizeOf231 KP hP J
 have hc:=hins w base v fps hG hn ht hg
 have h1:¬ (20:Int)<=(l.length:Int):=J
 have h2:¬ (20:Int) < (l.length:Int):=J
 clear hins hG hn ht
 show Calls _ _ #[v,.int .i64 l.length,.func (.func 197) #[] #[]] w _
 go_enter func265,ntmps265
 go_wp2_with fail
 refine wp_loop_rounds 1 ?_
 rw[rounds_succ]
 go_wp2_with (go_at_call 302; refine hc.mono ?_; rintro en w' ⟨fps',rfl,k1,k2,k3⟩)
 refine wp_loop_rounds 1 ?_
 rw[rounds_succ]
 go_wp2_with fail
 go_end0
 exact⟨fps',rfl,k1,k2,k3⟩
theorem Um (l:List DP) (hl:l.length < 20) (hP:∀x ∈ l,gB x):kl prog 196 [.fn 197] 231 ax l (mv ax H0 l) false:=by
 refine kl.ofRaw (enters_of func196 ai rfl) fun w base v fps hG hn ht hg=>?_
 have hc:=Lt l hl hP w base v fps hG hn ht hg
 obtain⟨ad,cp,rfl⟩:=qC hg
 clear hG hn ht hg
 show Calls _ _ #[.slice ad l.length cp,.func (.func 197) #[] #[]] w _
 go_enter func196,ntmps196
 go_wp2_with (go_at_call 265; refine hc.mono ?_; rintro en w' ⟨fps',rfl,k1,k2,k3⟩)
 go_end0
 exact⟨fps',rfl,k1,k2,k3⟩
theorem K2 (l:List DK) (hl:l.length < 20) (hP:∀x ∈ l,gK x):E0 prog 301 238 dK l (mv dK KF l) [.int .i64 l.length,.func (.func 263) #[] #[]]:=by
 intro w base v fps hG hn ht hg
 have hins:E0 prog 345 238 dK l (mv dK KF l) [.int .i64 0,.int .i64 l.length,.func (.func 263) #[] #[]] :=
  SF (t:=dK) acT (enters_of func345 ai rfl) (enters_of func263 ai rfl) rfl Tryz.isAgg238 Tryz.sizeOf238 HC hP J
 have hc:=hins w base v fps hG hn ht hg
 have h1:¬ (20:Int)<=(l.length:Int):=J
 have h2:¬ (20:Int) < (l.length:Int):=J
 clear hins hG hn ht
 show Calls _ _ #[v,.int .i64 l.length,.func (.func 263) #[] #[]] w _
 go_enter func301,ntmps301
 go_wp2_with fail
 refine wp_loop_rounds 1 ?_
 rw[rounds_succ]
 go_wp2_with (go_at_call 345; refine hc.mono ?_; rintro en w' ⟨fps',rfl,k1,k2,k3⟩)
 refine wp_loop_rounds 1 ?_
 rw[rounds_succ]
 go_wp2_with fail
 go_end0
 exact⟨fps',rfl,k1,k2,k3⟩
theorem UL (l:List DK) (hl:l.length < 20) (hP:∀x ∈ l,gK x):kl prog 262 [.fn 263] 238 dK l (mv dK KF l) false:=by
 refine kl.ofRaw (enters_of func262 ai rfl) fun w base v fps hG hn ht hg=>?_
 have hc:=K2 l hl hP w base v fps hG hn ht hg
 obtain⟨ad,cp,rfl⟩:=qC hg
 clear hG hn ht hg
 show Calls _ _ #[.slice ad l.length cp,.func (.func 263) #[] #[]] w _
 go_enter func262,ntmps262
 go_wp2_with (go_at_call 301; refine hc.mono ?_; rintro en w' ⟨fps',rfl,k1,k2,k3⟩)
 go_end0
 exact⟨fps',rfl,k1,k2,k3⟩
theorem Ft (a b:List Int):Fn prog 97 [⟨aq,a⟩,⟨aq,b⟩] false [⟨.bool,l6 a b⟩]:=by
 by_cases h0:(a.length:Int)=b.length
 ·have d0:=aj h0
  refine fe func97 ntmps97 results97 fun hwf=>?_
  have hl:a.length<=9223372036854775807:=(hwf ⟨aq,a⟩ ah).1
  refine Uz d0 ?_
  refine aF.intro _ _ _ (fun i:Nat=>⟨[(0,.sl .int a),(1,.sl .int b),(12,.sc (.int .i64 a.length)),(13,.sc (.int .i64 i))],[]⟩) (fun i=>∀j,j < i->j < a.length->ni a j=ni b j) (fun i=>a.length - i) 0 ?_ (fun j h=>absurd h (not_lt_zero _)) ?_
  ·exact WK
  ·rintro i hi
   refine Nz ?_
   refine ao ?_ ?_<;>intro hA
   ·by_cases e:ni a i=ni b i
    ·have d1:decide (ni a i=ni b i)=true:=aj e
     refine Tz d1 ?_
     refine Tz d1 ?_
     refine az.mk (i+1) ?_ (fun j h1 h2=>?_) J
     ·exact WK
     ·by_cases h3:j < i
      ·exact hi j h3 h2
      ·rw[show j=i from J]; exact e
    ·have d1:decide (ni a i=ni b i)=false:=ak e
     rw[cD (fun h=>e (by rw[h]))]
     refine Tz d1 ?_
     exact Gz d1
   ·have:a=b:=by
     refine List.ext_getElem J fun j h1 h2=>?_
     have:=hi j J h1
     rwa [cd h1,cd h2] at this
    rw[gD this]
    try simp (maxSteps:=9^9) only[go_sem]
 ·have d0:=ak h0
  rw[cD (fun h=>h0 (by rw[h]))]
  refine fe func97 ntmps97 results97 fun hwf=>?_
  try simp (maxSteps:=9^9) only[go_sem,d0]
theorem ph (r s:DR):Fn prog 38 [⟨au,r⟩,⟨au,s⟩] false [⟨.bool,l6 r s⟩]:=by
 obtain⟨⟨n,a⟩,d⟩:=r
 obtain⟨⟨m,b⟩,e⟩:=s
 have c1:=Ft a b
 have c2:=Ft d e
 by_cases h1:n=m
 rotate_left
 ·rw[cD (fun h=>h1 (by injection h with h _; injection h))]
  have k1:(n == m)=false:=by cases n<;>cases m<;>simp_all
  refine fe func38 ntmps38 results38 fun hwf=>?_
  exact Gz k1
 have k1:(n == m)=true:=by rw[h1]; exact beq_self_eq_true m
 by_cases h2:a=b
 rotate_left
 ·rw[cD (fun h=>h2 (by injection h with h _; injection h))]
  rw[cD h2] at c1
  refine fe func38 ntmps38 results38 fun hwf=>?_
  refine Tz k1 ?_
  refine cw c1 ?_
  all_goals exact Fz
 rw[gD h2] at c1
 by_cases h3:d=e
 ·rw[gD (by rw[h1,h2,h3])]
  rw[gD h3] at c2
  refine fe func38 ntmps38 results38 fun hwf=>?_
  refine Tz k1 ?_
  refine cw c1 ?_
  refine Sz ?_
  refine cw c2 ?_
  all_goals exact Fz
 ·rw[cD (fun h=>h3 (by injection h))]
  rw[cD h3] at c2
  refine fe func38 ntmps38 results38 fun hwf=>?_
  refine Tz k1 ?_
  refine cw c1 ?_
  refine Sz ?_
  refine cw c2 ?_
  all_goals exact Fz
end DW

namespace DW
open Go.RowKit Go.Sort
section
variable {α β:Type} [Inhabited α] (f:α->β)
def pP (d:Array α) (m:Nat):Bool:=@decide (m=0\/f d[m]! ≠ f d[m - 1]!) (Classical.propDecidable _)
def fH (d:Array α):Nat->List α
 | 0=>[]
 | m+1=>fH d m++(if pP f d m=true then [d[m]!] else [])
structure CI (d:Array α) (m kk:Nat) (dk:Array α):Prop where
 size:dk.size=d.size
 len:(fH f d m).length=kk
 lt:kk < m
 low:∀j,j < kk->(fH f d m)[j]? = some dk[j]!
 high:∀j,m - 1<=j->dk[j]! = d[j]!
variable {f}
theorem yZ {d:Array α} {m:Nat} (h:m=0\/f d[m]! ≠ f d[m - 1]!):pP f d m=true:=by
 unfold pP; exact @aj _ (Classical.propDecidable _) h
theorem Ph {d:Array α} {m:Nat} (h0:0 < m) (h:f d[m]! = f d[m - 1]!):pP f d m=false:=by
 unfold pP; exact @ak _ (Classical.propDecidable _) (by rintro (h1|h1); omega; exact h1 h)
theorem Eu {d:Array α}:∀m,m<=d.size->(∀j,j < m->pP f d j=true)->fH f d m=(d.toList.take m)
 | 0,_,_=>rfl
 | m+1,hm,h=>by
  rw[fH,if_pos (h m (Nat.lt_succ_self m)),Eu m J fun j hj=>h j J]
  rw[List.take_add_one,getElem?_toList,Array.getElem?_eq_getElem J]
  rw[getElem!_pos d m J]; rfl
theorem EA {d:Array α}:∀m,(fH f d m).length<=m
 | 0=>le_refl _
 | m+1=>by
  have:=EA (d:=d) m
  rw[fH,length_append]
  split
  ·rw[List.length_singleton]; omega
  ·rw[List.length_nil]; omega
theorem DT {d:Array α} {x:α}:∀m,m<=d.size->x ∈ fH f d m->x ∈ d
 | 0,_,h=>by cases h
 | m+1,hm,h=>by
  rw[fH] at h
  rcases mem_append.1 h with h|h
  ·exact DT m J h
  ·split at h
   ·rw[mem_singleton.1 h,getElem!_pos d m J]; exact Array.getElem_mem _
   ·cases h
theorem CI.start {d:Array α} {k:Nat} (hk:k < d.size) (h0:0 < k) (h:∀j,j < k->pP f d j=true) (hn:pP f d k=false):CI f d (k+1) k d:=by
 have e:fH f d (k+1)=d.toList.take k:=by
  rw[fH,if_neg (by rw[hn]; decide),append_nil,Eu k J h]
 refine⟨rfl,by rw[e,length_take,length_toList]; omega,Nat.lt_succ_self k,fun j hj=>?_,fun _ _=>rfl⟩
 rw[e,getElem?_take,if_pos hj,getElem?_toList,Array.getElem?_eq_getElem J,getElem!_pos d j J]
theorem CI.skip {d dk:Array α} {m kk:Nat} (h:CI f d m kk dk) (hn:pP f d m=false):CI f d (m+1) kk dk:=by
 have e:fH f d (m+1)=fH f d m:=by rw[fH,if_neg (by rw[hn]; decide),append_nil]
 exact⟨h.size,by rw[e]; exact h.len,Nat.lt_succ_of_lt h.lt,fun j hj=>by rw[e]; exact h.low j hj,fun j hj=>h.high j J⟩
theorem CI.keep {d dk:Array α} {m kk:Nat} (h:CI f d m kk dk) (hm:m < d.size) (hn:pP f d m=true):CI f d (m+1) (kk+1) (dk.setIfInBounds kk d[m]!):=by
 have e:fH f d (m+1)=fH f d m++[d[m]!]:=by rw[fH,if_pos hn]
 have hlt:=h.lt
 have hsz:=h.size
 refine⟨by rw[Array.size_setIfInBounds]; exact h.size,by rw[e,length_append,h.len]; rfl,J,fun j hj=>?_,fun j hj=>?_⟩
 ·rw[e]
  by_cases hjk:j=kk
  ·subst hjk
   rw[List.getElem?_append_right (by rw[h.len]; exact le_refl _),h.len,sub_self,getElem!_set_same _ _ _ J]
   rfl
  ·rw[List.getElem?_append_left (by rw[h.len]; omega),getElem!_set_other _ _ _ _ hjk]
   exact h.low j J
 ·rw[getElem!_set_other _ _ _ _ J]
  exact h.high j J
theorem CI.take {d dk:Array α} {m kk:Nat} (h:CI f d m kk dk) (hk:kk<=dk.size):fH f d m=dk.toList.take kk:=by
 refine List.ext_getElem? fun j=>?_
 by_cases hj:j < kk
 ·rw[h.low j hj,getElem?_take,if_pos hj,getElem?_toList,Array.getElem?_eq_getElem J,getElem!_pos dk j J]
 ·rw[List.getElem?_eq_none (by rw[h.len]; omega),getElem?_take,if_neg hj]
end
section
variable {t:Ty} {Pr:t.den->Prop} {w:World} {g:Nat} [Inhabited (Hd t Pr w g)]
theorem Jj (d:Array (Hd t Pr w g)) {i:Nat} (hi:i < d.size) (x:Hd t Pr w g):setMany (flatK Hd.cs t.rp.size d) (i * t.rp.size) x.cs=flatK Hd.cs t.rp.size (d.setIfInBounds i x):=by
 have hk:=t.pos
 refine ext_get! ah fun j hj=>?_
 have hj':j < d.size * t.rp.size:=by simpa using hj
 have hxl:=x.len
 rw[get_setMany _ _ _ j (by simpa using hj'),get_flatK _ _ _ j hj',get_flatK _ _ _ j (by simpa using hj')]
 have hdm:=Nat.div_add_mod j t.rp.size
 have hm:=mod_lt j hk
 by_cases h:j / t.rp.size=i
 ·have e1:i * t.rp.size+j % t.rp.size=j:=by rw[<-h,mul_comm]; exact hdm
  rw[if_pos ⟨J,J⟩,h,getElem!_set_same d i x hi,show j - i * t.rp.size=j % t.rp.size from J]
 ·rw[getElem!_set_other d i _ x h,if_neg ?_]
  rintro⟨h1,h2⟩
  rw[hxl] at h2
  refine h (Nat.div_eq_of_lt_le (by rw[mul_comm]; rw[mul_comm] at h1; exact h1) ?_)
  rw[succ_mul]; exact h2
theorem Ej (d:Array (Hd t Pr w g)) {kk:Nat} (hk0:kk<=d.size) (z:Hd t Pr w g) (zs:List Value) (hzl:zs.length=(d.size - kk) * t.rp.size) (hz:∀j,j < zs.length->zs[j]! = z.cs[j % t.rp.size]!) :
  setMany (flatK Hd.cs t.rp.size d) (kk * t.rp.size) zs=flatK Hd.cs t.rp.size (d.toList.take kk++replicate (d.size - kk) z).toArray:=by
 have hk:=t.pos
 have hsz:(d.toList.take kk++replicate (d.size - kk) z).toArray.size=d.size:=by simp; omega
 refine ext_get! (by rw[size_setMany,size_flatK,size_flatK,hsz]) fun j hj=>?_
 have hj':j < d.size * t.rp.size:=by simpa using hj
 rw[get_setMany _ _ _ j (by simpa using hj'),get_flatK _ _ _ j hj',get_flatK _ _ _ j (by rw[hsz]; exact hj')]
 have hdm:=Nat.div_add_mod j t.rp.size
 have hm:=mod_lt j hk
 have hq:j / t.rp.size < d.size:=Nat.div_lt_of_lt_mul (by rw[mul_comm]; exact hj')
 have hsub:kk * t.rp.size+zs.length=d.size * t.rp.size:=by rw[hzl,<-Nat.add_mul]; congr 1; omega
 by_cases h:j / t.rp.size < kk
 ·have h1:j < kk * t.rp.size:=(Nat.div_lt_iff_lt_mul hk).1 h
  rw[if_neg J]
  have e:(d.toList.take kk++replicate (d.size - kk) z).toArray[j / t.rp.size]! = d[j / t.rp.size]!:=by
   rw[getElem!_pos (d.toList.take kk++replicate (d.size - kk) z).toArray (j / t.rp.size) (by rw[hsz]; exact hq),List.getElem_toArray,List.getElem_append_left (by rw[length_take,length_toList]; omega),List.getElem_take,Array.getElem_toList,getElem!_pos d (j / t.rp.size) hq]
  rw[e]
 ·have h1:kk * t.rp.size<=j:=by
   have:=fun h2=>h ((Nat.div_lt_iff_lt_mul hk).2 h2)
   exact Nat.le_of_not_lt this
  rw[if_pos ⟨h1,J⟩,hz _ J]
  have e:(d.toList.take kk++replicate (d.size - kk) z).toArray[j / t.rp.size]! = z:=by
   rw[getElem!_pos (d.toList.take kk++replicate (d.size - kk) z).toArray (j / t.rp.size) (by rw[hsz]; exact hq),List.getElem_toArray,List.getElem_append_right (by rw[length_take,length_toList]; omega),List.getElem_replicate]
  rw[e]
  have e2:j % t.rp.size=(j - kk * t.rp.size) % t.rp.size:=by
   have h3:=Nat.add_mul_mod_self_right (j - kk * t.rp.size) kk t.rp.size
   rwa [Nat.sub_add_cancel h1] at h3
  rw[e2]
theorem K7 {off n i:Nat} {dk:Array (Hd t Pr w g)} {os:Array Obj} (hblk:g < w.heap.size) (hi:i < dk.size) (x:Hd t Pr w g):(sortWorldK Hd.cs t.rp.size w g off n dk os).setCells g (off+i * t.rp.size) x.cs=sortWorldK Hd.cs t.rp.size w g off n (dk.setIfInBounds i x) os:=by
 unfold sortWorldK
 rw[setCells_grow os g _ _ _ (by show g < (putRowK Hd.cs t.rp.size _ g off dk).heap.size; rw[size_putRowK]; exact hblk)]
 unfold putRowK
 have hb:(i+1) * t.rp.size<=dk.size * t.rp.size:=mul_le_mul_right _ hi
 rw[succ_mul] at hb
 rw[setCells_putRow (Sort.ahead w n) g off x.cs (i * t.rp.size) _ (by rw[size_flatK,x.len]; exact hb),Jj dk hi x]
theorem KQ {off n kk:Nat} {dk:Array (Hd t Pr w g)} {os:Array Obj} (hblk:g < w.heap.size) (hk0:kk<=dk.size) (z:Hd t Pr w g) (zs:List Value) (hzl:zs.length=(dk.size - kk) * t.rp.size) (hz:∀j,j < zs.length->zs[j]! = z.cs[j % t.rp.size]!) :
  (sortWorldK Hd.cs t.rp.size w g off n dk os).setCells g (off+kk * t.rp.size) zs=sortWorldK Hd.cs t.rp.size w g off n (dk.toList.take kk++replicate (dk.size - kk) z).toArray os:=by
 unfold sortWorldK
 rw[setCells_grow os g _ _ _ (by show g < (putRowK Hd.cs t.rp.size _ g off dk).heap.size; rw[size_putRowK]; exact hblk)]
 unfold putRowK
 rw[setCells_putRow (Sort.ahead w n) g off zs (kk * t.rp.size) _ (by rw[size_flatK,hzl,<-Nat.add_mul]; exact mul_le_mul_right _ J),Ej dk hk0 z zs hzl hz]
theorem I4 (off n:Nat) (d:Array (Hd t Pr w g)) (os:Array Obj):ep (fun x=>x=g) w.heap.size w (sortWorldK Hd.cs t.rp.size w g off n d os):=by
 refine⟨rfl,rfl,rfl,?_,fun k hk hne=>?_⟩
 ·rw[sortWorldK,size_grow]
  have:(putRowK Hd.cs t.rp.size (Sort.ahead w n) g off d).heap.size=w.heap.size:=by unfold putRowK; rw[size_putRow]; rfl
  omega
 ·have hkg:¬ g=k:=fun h=>hne h.symm
  unfold sortWorldK putRowK putRow mapBlock grow
  simp only[heap_ahead]
  rw[Array.getElem?_append_left (by rw[size_modify]; exact hk),getElem?_modify,if_neg hkg]
theorem Fn.eqv {P:Program} {f:FuncId} {x y:t.den} {b:Bool} (hag:t.isAgg=true) (h:Fn P f [⟨t,x⟩,⟨t,y⟩] false [⟨.bool,b⟩]) {W:World} {cs ds:List Value} {f1 f2:List Nat} (hG:Gw P W) (h1:t.rp.rep W cs x f1) (h2:t.rp.rep W ds y f2) :
  Calls P f #[.agg cs.toArray,.agg ds.toArray] W fun e w'=>e=.returned (.bool b)/\∃q os',w'=grow (W.drewN q) os':=by
 have hc:=h.2 W [.agg cs.toArray,.agg ds.toArray] (fun _=>True) hG ⟨⟨f1,⟨cs,.inl ⟨hag,rfl⟩,h1⟩,fun _ _=>trivial⟩,⟨f2,⟨ds,.inl ⟨hag,rfl⟩,h2⟩,fun _ _=>trivial⟩,trivial⟩
 have hc2:Calls P f #[.agg cs.toArray,.agg ds.toArray] W fun e w'=>e=.returned (.bool b)/\Below W.heap.size W w':=hc.mono fun e w' ⟨hb,v,he,fp,⟨us,hp,hr⟩,_⟩=>by
  refine⟨?_,hb⟩
  rcases hp with ⟨h,_⟩|⟨_,rfl⟩
  ·cases h
  ·rw[he,List.cons.inj hr.1 |>.1]
 exact (Drn.CO hc2 fun e w' h=>by rw[h.1]; exact fun h=>by cases h).mono fun e w' ⟨⟨h1,h2⟩,h3⟩=>⟨h1,grown_of h2 h3⟩
end
end DW

namespace DW
open Go.RowKit Go.Sort Go.Lib
abbrev HQ (w:World) (g:Nat):=Hd au gF w g
def zQ (w:World) (g:Nat):HQ w g:=⟨[.bool false,.slice none 0 0,.slice none 0 0],((false,[]),[]),[],by
 refine⟨[.bool false,.slice none 0 0],[.slice none 0 0],[],[],rfl,rfl,⟨[.bool false],[.slice none 0 0],[],[],rfl,rfl,⟨rfl,rfl⟩,?_⟩,?_⟩
 ·exact⟨none,0,rfl,le_refl _,zero_le _,.inl ⟨rfl,rfl⟩⟩
 ·exact⟨none,0,rfl,le_refl _,zero_le _,.inl ⟨rfl,rfl⟩⟩,(fun h=>by cases h),iu eu⟩
def zL (n:Nat):List Value:=(List.range (n * 3)).map fun i=>(#[Value.bool false,.slice none 0 0,.slice none 0 0])[i % 3]!
theorem Iv (n:Nat):(zL n).length=n * 3:=by simp[zL]
theorem abU (w:World) (g n j:Nat) (h:j < (zL n).length):(zL n)[j]! = (zQ w g).cs[j % 3]!:=by
 rw[getElem!_pos (zL n) j h]
 simp only[zL,getElem_map,List.getElem_range]
 have:j % 3=0\/j % 3=1\/j % 3=2:=J
 rcases this with h|h|h<;>rw[h]<;>rfl
theorem GC (w:World) (ty:TypeId) (b o n c:Nat) (hn:0 < n)
  (hc:∀j,j < n * 3->(w.cell? ⟨b,o+j,none⟩).isSome=true) (hf:∀j,j < n * 3->w.frozen? ⟨b,o+j,none⟩=false) :
  (Builtin.clear_ #[74] ty #[.slice (some ⟨b,o,none⟩) n c]).run prog w=.ok (.tuple #[]) (w.setCells b o (zL n)):=by
 have hzc:(Builtin.zeroCells (Value.agg #[.bool false,.slice none 0 0,.slice none 0 0]).cells n).toList=zL n:=by
  simp[Builtin.zeroCells,zL,Value.cells]
 have hst:=run_storeCells_cells (P:=prog) b o (zL n) 0 w (by rw[Iv]; simpa using hc) (by rw[Iv]; simpa using hf) (by
  intro v hv
  obtain⟨i,_,rfl⟩:=mem_map.1 hv
  have:i % 3=0\/i % 3=1\/i % 3=2:=J
  rcases this with h|h|h<;>rw[h]<;>rfl)
 simp only[add_zero] at hst
 obtain⟨m,rfl⟩:∃m,n=m+1:=⟨n - 1,J⟩
 have hz:=Tryz.zeroValue40
 have hu:=Tryz.underlying74
 simp[Builtin.clear_,run_underlying hu,hz,hzc,hst]
theorem CX {l:List Value} (h:l.length=3):∃a b c,l=[a,b,c]:=by
 match l,h with
 | [a,b,c],_=>exact⟨a,b,c,rfl⟩
theorem Iu (blk off cap:Nat) (w:World) (hblk:blk < w.heap.size) [Inhabited (HQ w blk)] (d:Array (HQ w blk)) (hH:HoldsK Hd.cs 3 w blk off d) (hsz:d.size<=9223372036854775807) (hcap:d.size<=cap) (hG:Gw prog w) (hne:∀g',Tryz.prog.globalNamed gH=some g'->blk ≠ g') :
  Calls prog 260 #[.slice (some ⟨blk,off,none⟩) d.size cap,.func (.func 38) #[] #[]] w fun e w'=>e=.returned (.slice (some ⟨blk,off,none⟩) (fH Hd.x d d.size).length cap)/\∃q os,w'=sortWorldK Hd.cs 3 w blk off q (fH Hd.x d d.size++replicate (d.size - (fH Hd.x d d.size).length) (zQ w blk)).toArray os:=by
 have mixed:Tryz.prog.follows .mixedOrders=true:=bA
 have heq:∀q (dk:Array (HQ w blk)) os (x y:HQ w blk),Calls prog 38 #[.agg x.cs.toArray,.agg y.cs.toArray] (sortWorldK Hd.cs 3 w blk off q dk os) fun e w'=>e=.returned (.bool (l6 x.x y.x))/\∃q' os',w'=grow ((sortWorldK Hd.cs 3 w blk off q dk os).drewN q') os':=fun q dk os x y=>by
  have hbx:=I4 (t:=au) (Pr:=gF) (w:=w) (g:=blk) off q dk os
  exact Fn.eqv rfl (ph x.x y.x) (hG.Mk hbx fun g' h=>⟨(hG g' h).1,fun e=>hne g' h e.symm⟩) (x.keep hbx) (y.keep hbx)
 have w0:w=sortWorldK Hd.cs 3 w blk off 0 d #[]:=by unfold sortWorldK; rw[grow_empty]; exact (putRowK_self Hd.cs 3 w blk off d hH).symm
 have same:∀q os,(∀j,j < d.size->pP Hd.x d j=true)->(fH Hd.x d d.size).length=d.size/\sortWorldK Hd.cs 3 w blk off q d os=sortWorldK Hd.cs 3 w blk off q (fH Hd.x d d.size++replicate (d.size - (fH Hd.x d d.size).length) (zQ w blk)).toArray os:=by
  intro q os hall
  have e:fH Hd.x d d.size=d.toList:=by rw[Eu _ (le_refl _) hall,take_of_length_le ah]
  rw[e]
  refine⟨by simp,?_⟩
  simp only[length_toList,sub_self,List.replicate_zero,append_nil,Array.toArray_toList]
 have HS:Aside (∀q os,(∀j,j < d.size->pP Hd.x d j=true)->(fH Hd.x d d.size).length=d.size/\sortWorldK Hd.cs 3 w blk off q d os=sortWorldK Hd.cs 3 w blk off q (fH Hd.x d d.size++replicate (d.size - (fH Hd.x d d.size).length) (zQ w blk)).toArray os):=same
 have HE:Aside (∀q (dk:Array (HQ w blk)) os (x y:HQ w blk),Calls prog 38 #[.agg x.cs.toArray,.agg y.cs.toArray] (sortWorldK Hd.cs 3 w blk off q dk os) fun e w'=>e=.returned (.bool (l6 x.x y.x))/\∃q' os',w'=grow ((sortWorldK Hd.cs 3 w blk off q dk os).drewN q') os'):=heq
 have HH:Aside (HoldsK Hd.cs 3 w blk off d):=hH
 have HW:Aside (w=sortWorldK Hd.cs 3 w blk off 0 d #[]):=w0
 clear same heq hH w0 hG hne
 by_cases h2:d.size < 2
 ·go_enter func260,ntmps260
  go_wp2
  go_ret
  obtain⟨e1,e2⟩:=HS.out 0 #[] (fun j hj=>yZ (.inl J))
  exact⟨by rw[e1]; rfl,0,#[],HW.out.trans e2⟩
 ·go_enter func260,ntmps260
  go_wp2
  go_loopg [5] d.size (fun g s5 wr=>∃(k q:Nat) (os:Array Obj),1<=k/\k<=d.size/\d.size - k<=g/\s5=.int .i64 k/\wr=sortWorldK Hd.cs 3 w blk off q d os/\Hid (∀j,j < k->pP Hd.x d j=true))
  case atStart=>exact⟨1,0,#[],le_refl _,J,J,rfl,HW.out,fun j hj=>yZ (.inl J)⟩
  case round =>
   obtain⟨k,q,os,hk1,hk,hg,rfl,rfl,hall⟩:=hrel
   by_cases hlt:k < d.size
   ·obtain⟨kp,rfl⟩:∃kp,k=kp+1:=⟨k - 1,J⟩
    obtain⟨x,hx⟩:∃x,d[kp+1]! = x:=⟨_,rfl⟩
    obtain⟨y,hy⟩:∃y,d[kp]! = y:=⟨_,rfl⟩
    have hwp:IntKind.i64.wrap (kp:Int)=(kp:Int):=by rw[IntKind.wrap_i64]; omega
    have jz:(kp:Int)+1 < (d.size:Int):=J
    have jz1:(kp:Int) < (d.size:Int):=J
    have p0:(0:Int)<=(kp:Int)+1:=J
    have e0:((kp:Int)+1).toNat=kp+1:=J
    have hcls:∀n' os',grow ((sortWorldK Hd.cs 3 w blk off q d os).drewN n') os'=sortWorldK Hd.cs 3 w blk off (q+n') d (os++os'):=fun n' os'=>sortWorldK_grown_c Hd.cs 3 w blk off q n' d os os'
    have hHc:∀n' os',HoldsK Hd.cs 3 (grow ((sortWorldK Hd.cs 3 w blk off q d os).drewN n') os') blk off d:=fun n' os'=>by rw[hcls]; exact holdsK_sortWorldK_c Hd.cs 3 w blk off d d _ _ HH.out hblk rfl
    have hcg:∀n' os',Calls prog 38 #[.agg x.cs.toArray,.agg y.cs.toArray] (grow ((sortWorldK Hd.cs 3 w blk off q d os).drewN n') os') fun e w'=>e=.returned (.bool (l6 x.x y.x))/\∃q' os'',w'=grow ((grow ((sortWorldK Hd.cs 3 w blk off q d os).drewN n') os').drewN q') os'':=fun n' os'=>by
     rw[hcls]; exact HE.out _ d _ x y
    obtain⟨a0,a1,a2,ha⟩:=CX x.len
    obtain⟨b0,b1,b2,hb⟩:=CX y.len
    have cx:∀n' os' c,c < 3->(grow ((sortWorldK Hd.cs 3 w blk off q d os).drewN n') os').cell? ⟨blk,off+(kp+1) * 3+c,none⟩=some (x.cs[c]!):=fun n' os' c hc=>by
     rw[<-hx]; exact ((hHc n' os').cell hlt hc).1
    have cy:∀n' os' c,c < 3->(grow ((sortWorldK Hd.cs 3 w blk off q d os).drewN n') os').cell? ⟨blk,off+kp * 3+c,none⟩=some (y.cs[c]!):=fun n' os' c hc=>by
     rw[<-hy]; exact ((hHc n' os').cell J hc).1
    rw[ha] at cx hcg
    rw[hb] at cy hcg
    have x0:=fun n' os'=>cx n' os' 0 ae
    have x1:=fun n' os'=>cx n' os' 1 ae
    have x2:=fun n' os'=>cx n' os' 2 ae
    have y0:=fun n' os'=>cy n' os' 0 ae
    have y1:=fun n' os'=>cy n' os' 1 ae
    have y2:=fun n' os'=>cy n' os' 2 ae
    simp only[add_zero,show [a0,a1,a2][0]! = a0 from rfl,show [a0,a1,a2][1]! = a1 from rfl,show [a0,a1,a2][2]! = a2 from rfl] at x0 x1 x2
    simp only[add_zero,show [b0,b1,b2][0]! = b0 from rfl,show [b0,b1,b2][1]! = b1 from rfl,show [b0,b1,b2][2]! = b2 from rfl] at y0 y1 y2
    have CLS:Hid (∀n' os',grow ((sortWorldK Hd.cs 3 w blk off q d os).drewN n') os'=sortWorldK Hd.cs 3 w blk off (q+n') d (os++os')):=hcls
    clear hcls hHc cx cy
    have XY:Hid (d[kp+1]! = x/\d[kp]! = y):=⟨hx,hy⟩
    clear hx hy ha hb
    generalize hwq:sortWorldK Hd.cs 3 w blk off q d os=wq at hcg CLS x0 x1 x2 y0 y1 y2 ⊢
    by_cases hdup:x.x=y.x
    ·rw[gD hdup] at hcg
     go_wp2_with fail
     go_quiet_grown (first|(go_at_call 38; refine Calls.grown_of (hcg _ _)))
     have hw2:grow (wq.drewN nq) osq=sortWorldK Hd.cs 3 w blk off (q+nq) d (os++osq):=CLS.out nq osq
     clear x0 x1 x2 y0 y1 y2 hcg CLS hwq
     simp only
     generalize grow (wq.drewN nq) osq=wq2 at hw2 ⊢
     have HW2:Hid (wq2=sortWorldK Hd.cs 3 w blk off (q+nq) d (os++osq)):=hw2
     clear hw2
     go_wp2_with fail
     go_loopg [5,7] d.size (fun g s5 s7 wr=>∃(kk k2 q2:Nat) (dk:Array (HQ w blk)) (os2:Array Obj),s5=.int .i64 kk/\s7=.int .i64 k2/\1<=k2/\kp+1+k2<=d.size/\d.size - (kp+1+k2)<=g/\wr=sortWorldK Hd.cs 3 w blk off q2 dk os2/\Hid (CI Hd.x d (kp+1+k2) kk dk))
     case atStart=>exact⟨kp+1,1,q+nq,d,os++osq,by go_num,rfl,le_refl _,J,J,HW2.out,CI.start hlt J hall.out (Ph J (by rw[XY.out.1,Nat.add_sub_cancel,XY.out.2]; exact hdup))⟩
     case round =>
      obtain⟨kk,k2,q2,dk,os2,rfl,rfl,hk2,hle,hg2,rfl,hI⟩:=hrel
      by_cases hlt2:kp+1+k2 < d.size
      ·obtain⟨k2p,rfl⟩:∃k2p,k2=k2p+1:=⟨k2 - 1,J⟩
       have hds:=hI.out.size
       have hkk:=hI.out.lt
       obtain⟨u,hu⟩:∃u,d[kp+1+(k2p+1)]! = u:=⟨_,rfl⟩
       obtain⟨v,hv⟩:∃v,d[kp+1+k2p]! = v:=⟨_,rfl⟩
       have hwp2:IntKind.i64.wrap (k2p:Int)=(k2p:Int):=by rw[IntKind.wrap_i64]; omega
       have hsub:((d.size - (kp+1):Nat):Int)=(d.size:Int) - ((kp:Int)+1):=J
       have kz:(k2p:Int)+1 < ((d.size - (kp+1):Nat):Int):=J
       have kz1:(k2p:Int) < ((d.size - (kp+1):Nat):Int):=J
       have kz2:k2p < d.size - (kp+1):=J
       have kz3:(k2p:Int) < (d.size:Int) - ((kp:Int)+1):=J
       have kz4:(k2p:Int)+1 < (d.size:Int) - ((kp:Int)+1):=J
       have r0:(0:Int)<=(k2p:Int)+1:=J
       have t0:((k2p:Int)+1).toNat=k2p+1:=J
       have hcls:∀n' os',grow ((sortWorldK Hd.cs 3 w blk off q2 dk os2).drewN n') os'=sortWorldK Hd.cs 3 w blk off (q2+n') dk (os2++os'):=fun n' os'=>sortWorldK_grown_c Hd.cs 3 w blk off q2 n' dk os2 os'
       have hHc:∀n' os',HoldsK Hd.cs 3 (grow ((sortWorldK Hd.cs 3 w blk off q2 dk os2).drewN n') os') blk off dk:=fun n' os'=>by rw[hcls]; exact holdsK_sortWorldK_c Hd.cs 3 w blk off d dk _ _ HH.out hblk hds
       have hcg:∀n' os',Calls prog 38 #[.agg u.cs.toArray,.agg v.cs.toArray] (grow ((sortWorldK Hd.cs 3 w blk off q2 dk os2).drewN n') os') fun e w'=>e=.returned (.bool (l6 u.x v.x))/\∃q' os'',w'=grow ((grow ((sortWorldK Hd.cs 3 w blk off q2 dk os2).drewN n') os').drewN q') os'':=fun n' os'=>by
        rw[hcls]; exact HE.out _ dk _ u v
       obtain⟨a0,a1,a2,ha⟩:=CX u.len
       obtain⟨b0,b1,b2,hb⟩:=CX v.len
       have du:dk[kp+1+(k2p+1)]! = u:=(hI.out.high _ J).trans hu
       have dv:dk[kp+1+k2p]! = v:=(hI.out.high _ J).trans hv
       have cx:∀n' os' c,c < 3->(grow ((sortWorldK Hd.cs 3 w blk off q2 dk os2).drewN n') os').cell? ⟨blk,off+(kp+1) * 3+(k2p+1) * 3+c,none⟩=some (u.cs[c]!):=fun n' os' c hc=>by
        have:=((hHc n' os').cell (i:=kp+1+(k2p+1)) J hc).1
        rwa [du,show off+(kp+1+(k2p+1)) * 3+c=off+(kp+1) * 3+(k2p+1) * 3+c from J] at this
       have cy:∀n' os' c,c < 3->(grow ((sortWorldK Hd.cs 3 w blk off q2 dk os2).drewN n') os').cell? ⟨blk,off+(kp+1) * 3+k2p * 3+c,none⟩=some (v.cs[c]!):=fun n' os' c hc=>by
        have:=((hHc n' os').cell (i:=kp+1+k2p) J hc).1
        rwa [dv,show off+(kp+1+k2p) * 3+c=off+(kp+1) * 3+k2p * 3+c from J] at this
       rw[ha] at cx hcg
       rw[hb] at cy hcg
       have x0:=fun n' os'=>cx n' os' 0 ae
       have x1:=fun n' os'=>cx n' os' 1 ae
       have x2:=fun n' os'=>cx n' os' 2 ae
       have y0:=fun n' os'=>cy n' os' 0 ae
       have y1:=fun n' os'=>cy n' os' 1 ae
       have y2:=fun n' os'=>cy n' os' 2 ae
       simp only[add_zero,show [a0,a1,a2][0]! = a0 from rfl,show [a0,a1,a2][1]! = a1 from rfl,show [a0,a1,a2][2]! = a2 from rfl] at x0 x1 x2
       simp only[add_zero,show [b0,b1,b2][0]! = b0 from rfl,show [b0,b1,b2][1]! = b1 from rfl,show [b0,b1,b2][2]! = b2 from rfl] at y0 y1 y2
       have CLS:Hid (∀n' os',grow ((sortWorldK Hd.cs 3 w blk off q2 dk os2).drewN n') os'=sortWorldK Hd.cs 3 w blk off (q2+n') dk (os2++os')):=hcls
       have UV:Hid (d[kp+1+(k2p+1)]! = u/\d[kp+1+k2p]! = v/\u.cs=[a0,a1,a2]):=⟨hu,hv,ha⟩
       clear hcls hHc cx cy hu hv hb du dv ha
       generalize hwq3:sortWorldK Hd.cs 3 w blk off q2 dk os2=wq at hcg CLS x0 x1 x2 y0 y1 y2 ⊢
       by_cases hdup2:u.x=v.x
       ·rw[gD hdup2] at hcg
        go_wp2_with fail
        go_quiet_grown (first|(go_at_call 38; refine Calls.grown_of (hcg _ _)))
        go_wp2
        go_roundg (d.size - (kp+1+(k2p+1+1)))
        case measure=>omega
        case rel=>exact⟨kk,k2p+1+1,q2+nq,dk,os2++osq,rfl,by go_num,J,J,le_refl _,CLS.out nq osq,hI.out.skip (Ph J (by rw[UV.out.1,show kp+1+(k2p+1) - 1=kp+1+k2p from J,UV.out.2.1]; exact hdup2))⟩
       ·rw[cD hdup2] at hcg
        go_wp2_with fail
        go_quiet_grown (first|(go_at_call 38; refine Calls.grown_of (hcg _ _)))
        have hw3:grow (wq.drewN nq) osq=sortWorldK Hd.cs 3 w blk off (q2+nq) dk (os2++osq):=CLS.out nq osq
        have hHd:HoldsK Hd.cs 3 (grow (wq.drewN nq) osq) blk off dk:=by rw[hw3]; exact holdsK_sortWorldK_c Hd.cs 3 w blk off d dk _ _ HH.out hblk hds
        have l0:=x0 nq osq
        have l1:=x1 nq osq
        have l2:=x2 nq osq
        obtain⟨s0,f0⟩:=hHd.cell (i:=kk) J (c:=0) ae
        obtain⟨s1,f1⟩:=hHd.cell (i:=kk) J (c:=1) ae
        obtain⟨s2,f2⟩:=hHd.cell (i:=kk) J (c:=2) ae
        rw[add_zero] at s0 f0
        have kkz:(kk:Int) < (d.size:Int):=J
        have v0:a0.oneCell'=true:=u.one a0 (by rw[UV.out.2.2]; simp)
        have v1:a1.oneCell'=true:=u.one a1 (by rw[UV.out.2.2]; simp)
        have v2:a2.oneCell'=true:=u.one a2 (by rw[UV.out.2.2]; simp)
        clear x0 x1 x2 y0 y1 y2 hcg CLS hwq3 hHd
        simp only
        generalize grow (wq.drewN nq) osq=wq3 at hw3 l0 l1 l2 s0 s1 s2 f0 f1 f2 ⊢
        have HW3:Hid (wq3=sortWorldK Hd.cs 3 w blk off (q2+nq) dk (os2++osq)):=hw3
        clear hw3
        generalize (Hd.cs dk[kk]!)[0]! = o0 at s0
        generalize (Hd.cs dk[kk]!)[1]! = o1 at s1
        generalize (Hd.cs dk[kk]!)[2]! = o2 at s2
        go_wp2
        go_roundg (d.size - (kp+1+(k2p+1+1)))
        case measure=>omega
        case rel =>
         refine⟨kk+1,k2p+1+1,q2+nq,dk.setIfInBounds kk u,os2++osq,by go_num,by go_num,J,J,le_refl _,?_,?_⟩
         ·show wq3.setCells blk (off+kk * 3) [a0,a1,a2]=_
          rw[<-UV.out.2.2,HW3.out]
          exact K7 (t:=au) hblk J u
         ·have:=hI.out.keep hlt2 (yZ (.inr (by rw[UV.out.1,show kp+1+(k2p+1) - 1=kp+1+k2p from J,UV.out.2.1]; exact hdup2)))
          rwa [UV.out.1] at this
      ·have hend:kp+1+k2=d.size:=J
       have hds:=hI.out.size
       have hkk:=hI.out.lt
       have hHk:HoldsK Hd.cs 3 (sortWorldK Hd.cs 3 w blk off q2 dk os2) blk off dk:=holdsK_sortWorldK_c Hd.cs 3 w blk off d dk _ _ HH.out hblk hds
       have hsl:=KQ (t:=au) (Pr:=gF) (w:=w) (g:=blk) (off:=off) (n:=q2) (dk:=dk) (os:=os2) hblk (kk:=kk) J (zQ w blk) (zL (d.size - kk)) (by rw[Iv,hds]; rfl) (fun j hj=>abU w blk _ j hj)
       have hsl':(sortWorldK Hd.cs 3 w blk off q2 dk os2).setCells blk (off+kk * 3) (zL (d.size - kk))=sortWorldK Hd.cs 3 w blk off q2 (dk.toList.take kk++replicate (dk.size - kk) (zQ w blk)).toArray os2:=hsl
       clear hsl
       have HSL:Hid _:=hsl'
       clear hsl'
       generalize hwq3:sortWorldK Hd.cs 3 w blk off q2 dk os2=wq at hHk HSL ⊢
       have hcl:∀ty,(Builtin.clear_ #[74] ty #[.slice (some ⟨blk,off+kk * 3,none⟩) (d.size - kk) (cap - kk)]).run prog wq=.ok (.tuple #[]) (wq.setCells blk (off+kk * 3) (zL (d.size - kk))) :=
        fun ty=>GC wq ty blk (off+kk * 3) _ _ J (fun j hj=>by
         have h:=(hHk (kk * 3+j) (by simp[hds]; omega)).1
         rw[show off+kk * 3+j=off+(kk * 3+j) from J,h]; rfl) (fun j hj=>by
         have h:=(hHk (kk * 3+j) (by simp[hds]; omega)).2
         rw[show off+kk * 3+j=off+(kk * 3+j) from J]; exact h)
       have k2z:¬ (k2:Int) < ((d.size - (kp+1):Nat):Int):=J
       have k2z2:¬ k2 < d.size - (kp+1):=J
       have k2z3:¬ (k2:Int) < (d.size:Int) - ((kp:Int)+1):=J
       have kkz:(kk:Int)<=(d.size:Int):=J
       clear hHk hwq3
       go_wp2
       go_ret
       have ht:=hI.out.take J
       rw[hend] at ht
       refine⟨by rw[ht,length_take,length_toList,Nat.min_eq_left J]; rfl,q2,os2,?_⟩
       rw[ht,length_take,length_toList,Nat.min_eq_left J,<-hds]
       rw[<-hds] at HSL
       exact HSL.out
    ·rw[cD hdup] at hcg
     go_wp2_with fail
     go_quiet_grown (first|(go_at_call 38; refine Calls.grown_of (hcg _ _)))
     go_wp2
     go_roundg (d.size - (kp+1+1))
     case measure=>omega
     case rel =>
      refine⟨kp+1+1,q+nq,os++osq,J,J,le_refl _,by go_num,CLS.out nq osq,fun j hj=>?_⟩
      by_cases e:j=kp+1
      ·subst e
       exact yZ (.inr (by rw[XY.out.1,Nat.add_sub_cancel,XY.out.2]; exact hdup))
      ·exact hall.out j J
   ·have:k=d.size:=J
    subst this
    go_wp2
    go_ret
    obtain⟨e1,e2⟩:=HS.out q os hall.out
    exact⟨by rw[e1]; rfl,q,os,e2⟩
end DW

namespace DW
open Go.RowKit Go.Shelf
def Qf:Go.Shelf.Ren:=⟨fun|6=>259|14=>300|15=>143|20=>337|21=>338|22=>339|23=>340|24=>341|25=>342|26=>343|27=>344|28=>221|29=>222|46=>366|47=>286|48=>287|49=>367|50=>368|57=>374|n=>n,fun|0=>0|3=>3|4=>4|5=>5|9=>9|22=>74|23=>294|24=>40|25=>70|39=>194|45=>258|46=>259|47=>334|50=>264|53=>267|55=>269|66=>306|70=>310|76=>329|77=>125|n=>n,fun n=>n⟩
theorem abz:SlLaysF0.n6 prog Qf where
 mixed:=by kernel_rfl
 f6:=⟨"slices.SortFunc[[]loop.example/g00811/impl.Rat,loop.example/g00811/impl.Rat]",ae,func259.trans (congrArg some ai)⟩
 f14:=⟨"slices.pdqsortCmpFunc[loop.example/g00811/impl.Rat]",ae,func300.trans (congrArg some ai)⟩
 f15:=func143.trans (congrArg some ai)
 f20:=⟨"slices.insertionSortCmpFunc[loop.example/g00811/impl.Rat]",ae,func337.trans (congrArg some ai)⟩
 f21:=⟨"slices.heapSortCmpFunc[loop.example/g00811/impl.Rat]",ae,func338.trans (congrArg some ai)⟩
 f22:=⟨"slices.breakPatternsCmpFunc[loop.example/g00811/impl.Rat]",ae,func339.trans (congrArg some ai)⟩
 f23:=⟨"slices.choosePivotCmpFunc[loop.example/g00811/impl.Rat]",ae,func340.trans (congrArg some ai)⟩
 f24:=⟨"slices.reverseRangeCmpFunc[loop.example/g00811/impl.Rat]",ae,func341.trans (congrArg some ai)⟩
 f25:=⟨"slices.partialInsertionSortCmpFunc[loop.example/g00811/impl.Rat]",ae,func342.trans (congrArg some ai)⟩
 f26:=⟨"slices.partitionEqualCmpFunc[loop.example/g00811/impl.Rat]",ae,func343.trans (congrArg some ai)⟩
 f27:=⟨"slices.partitionCmpFunc[loop.example/g00811/impl.Rat]",ae,func344.trans (congrArg some ai)⟩
 f28:=func221.trans (congrArg some ai)
 f29:=func222.trans (congrArg some ai)
 f46:=⟨"slices.siftDownCmpFunc[loop.example/g00811/impl.Rat]",ae,func366.trans (congrArg some ai)⟩
 f47:=func286.trans (congrArg some ai)
 f48:=func287.trans (congrArg some ai)
 f49:=⟨"slices.medianAdjacentCmpFunc[loop.example/g00811/impl.Rat]",ae,func367.trans (congrArg some ai)⟩
 f50:=⟨"slices.medianCmpFunc[loop.example/g00811/impl.Rat]",ae,func368.trans (congrArg some ai)⟩
 f57:=⟨"slices.order2CmpFunc[loop.example/g00811/impl.Rat]",ae,func374.trans (congrArg some ai)⟩
 t0:=Tryz.underlying0
 a0:=Tryz.isAgg0
 z0:=Tryz.sizeOf0
 v0:=Tryz.zeroValue0
 t3:=Tryz.underlying3
 a3:=Tryz.isAgg3
 z3:=Tryz.sizeOf3
 v3:=Tryz.zeroValue3
 t4:=Tryz.underlying4
 a4:=Tryz.isAgg4
 z4:=Tryz.sizeOf4
 v4:=Tryz.zeroValue4
 t5:=Tryz.underlying5
 a5:=Tryz.isAgg5
 z5:=Tryz.sizeOf5
 v5:=Tryz.zeroValue5
 t9:=Tryz.underlying9
 a9:=Tryz.isAgg9
 z9:=Tryz.sizeOf9
 v9:=Tryz.zeroValue9
 t22:=Tryz.underlying74
 a22:=Tryz.isAgg74
 z22:=Tryz.sizeOf74
 v22:=Tryz.zeroValue74
 t25:=Tryz.underlying70
 a25:=Tryz.isAgg70
 z25:=Tryz.sizeOf70
 v25:=Tryz.zeroValue70
 t39:=Tryz.underlying194
 a39:=Tryz.isAgg194
 z39:=Tryz.sizeOf194
 v39:=Tryz.zeroValue194
 t45:=Tryz.underlying258
 a45:=Tryz.isAgg258
 z45:=Tryz.sizeOf258
 v45:=Tryz.zeroValue258
 t46:=Tryz.underlying259
 a46:=Tryz.isAgg259
 z46:=Tryz.sizeOf259
 v46:=Tryz.zeroValue259
 t50:=Tryz.underlying264
 a50:=Tryz.isAgg264
 z50:=Tryz.sizeOf264
 v50:=Tryz.zeroValue264
 t53:=Tryz.underlying267
 a53:=Tryz.isAgg267
 z53:=Tryz.sizeOf267
 v53:=Tryz.zeroValue267
 t55:=Tryz.underlying269
 a55:=Tryz.isAgg269
 z55:=Tryz.sizeOf269
 v55:=Tryz.zeroValue269
 t66:=Tryz.underlying306
 a66:=Tryz.isAgg306
 z66:=Tryz.sizeOf306
 v66:=Tryz.zeroValue306
 t70:=Tryz.underlying310
 a70:=Tryz.isAgg310
 z70:=Tryz.sizeOf310
 v70:=Tryz.zeroValue310
 t76:=Tryz.underlying329
 a76:=Tryz.isAgg329
 z76:=Tryz.sizeOf329
 v76:=Tryz.zeroValue329
 t77:=Tryz.underlying125
 a77:=Tryz.isAgg125
 z77:=Tryz.sizeOf125
 v77:=Tryz.zeroValue125
end DW

namespace DW
open Go.RowKit Go.Sort Go.Lib
section
variable {α β:Type} [Inhabited α] [Inhabited β] (f:α->β)
theorem YO {d:Array α} {m:Nat} (hm:m < d.size):pP id (d.map f) m=pP f d m:=by
 unfold pP
 rw[mA f hm,mA f (by omega:m - 1 < d.size)]
 rfl
theorem LO {d:Array α}:∀m,m<=d.size->(fH f d m).map f=fH id (d.map f) m
 | 0,_=>rfl
 | m+1,hm=>by
  rw[fH,fH,map_append,LO m J,YO f J,mA f J]
  congr 1
  split<;>rfl
end
instance:Inhabited DR:=⟨au.zero⟩
def Co (l:List DR):List DR:=fH id l.toArray l.length
theorem Nn (l:List DR):(Co l).length<=l.length:=EA _
theorem MD {l:List DR} {r:DR} (h:r ∈ Co l):r ∈ l:=by
 have:=DT l.length (le_of_eq ah) h
 simpa using this
theorem KK (l:List DR) (h0:0 < l.length) (hn:l.length<=1048576) (hP:∀r ∈ l,gF r):kl prog 260 [.fn 38] 40 au l (Co l) true:=by
 refine⟨enters_of func260 ai rfl,fun w base v fps hG hown htab hone hg=>?_⟩
 obtain⟨g,cap,cur,rfl,hb,hgg,hnc,hcm,hcs,d,hdx,hdf,hH⟩:=Er (Pr:=gF) hg h0 hown hP
 have hdl:d.length=l.length:=by rw[<-hdx,length_map]
 letI:Inhabited (HQ w g):=⟨d[0]'J⟩
 have hgs:g < w.heap.size:=(Array.getElem?_eq_some_iff.1 hgg).1
 have hsz:d.toArray.size=l.length:=by rw[size_toArray,hdl]
 have hc:=Iu g 0 cap w hgs d.toArray hH J J hG (htab g rfl)
 rw[hsz] at hc
 refine Calls.mono hc ?_
 rintro en w' ⟨rfl,n,os,rfl⟩
 have hmap:(fH Hd.x d.toArray l.length).map Hd.x=Co l:=by
  rw[LO Hd.x l.length J]
  have:d.toArray.map Hd.x=l.toArray:=by rw[List.map_toArray,hdx]
  rw[this]; rfl
 have hcl:=EA (f:=Hd.x) (d:=d.toArray) l.length
 generalize hL:fH Hd.x d.toArray l.length=L at hmap hcl ⊢
 have hlen:(L++replicate (l.length - L.length) (zQ w g)).length=l.length:=by rw[length_append,List.length_replicate]; omega
 obtain⟨k1,k2⟩:=AL (base:=base) (n:=n) (os:=os) (d:=L++replicate (l.length - L.length) (zQ w g)) hb hgg hcs hcm J L.length J rfl
 rw[List.take_left,hmap] at k1
 refine⟨_,_,rfl,(fun h=>by cases h),rfl,rfl,k1,k2,fun b hbm=>?_⟩
 obtain⟨ff,hff,hbf⟩:=mem_flatten.1 hbm
 obtain⟨y,hy,rfl⟩:=mem_map.1 hff
 rw[<-hL] at hy
 have:=DT l.length J hy
 exact hdf y (by simpa using this) b hbf
def fQ (r:DR):Rat:=(aw r).getD 0
def Qp (r s:DR):Bool:=@decide (fQ r<=fQ s) (Classical.propDecidable _)
theorem ir {r s:DR}:Qp r s=true ↔ fQ r<=fQ s:=@decide_eq_true_iff _ (Classical.propDecidable _)
def nY (l:List DR):List DR:=l.mergeSort Qp
theorem EK (l:List DR):(nY l).length=l.length:=List.length_mergeSort _
theorem qN {l:List DR} {r:DR}:r ∈ nY l ↔ r ∈ l:=(List.mergeSort_perm l Qp).mem_iff
theorem Yc {r s:DR} (hr:br r=true) (hs:br s=true):bG (aw r) (aw s) < 0 ↔ fQ r < fQ s:=by
 obtain⟨p,_,e1,e2⟩:=qD hr
 obtain⟨q,_,e3,e4⟩:=qD hs
 unfold fQ
 rw[e2,e4]
 show eI p q < 0 ↔ p < q
 have:=qR (p:=p) (q:=q)
 constructor
 ·intro h
  have:¬ q<=p:=fun h2=>by have:=this.2 h2; omega
  exact not_le.1 this
 ·intro h
  have:¬ 0<=eI p q:=fun h2=>not_le.2 h (this.1 h2)
  omega
theorem key_inj {r s:DR} (hr:br r=true) (hs:br s=true) (h:fQ r=fQ s):r=s:=by
 obtain⟨p,_,e1,e2⟩:=qD hr
 obtain⟨q,_,e3,e4⟩:=qD hs
 unfold fQ at h
 rw[e2,e4] at h
 have h:p=q:=h
 rw[e1,e3,h]
abbrev gV (r:DR):Prop:=br r=true
theorem abM {r:DR} (h:gV r):gF r:=bg h
theorem OW (x y:DR) (hx:gV x) (hy:gV y):Fn prog 80 [⟨au,x⟩,⟨au,y⟩] false [⟨.int,bG (aw x) (aw y)⟩]:=by
 have:=bR (aw x) (aw y) (aI _) (aI _)
 rwa [bg hx,bg hy] at this
theorem PR {a b c:Rat} (h1:a < b) (h2:b < c):a < c:=not_le.1 fun h=>not_le.2 h1 (Rat.le_trans (Rat.le_of_lt h2) h)
theorem T9 (l:List DR) (h0:0 < l.length) (hn:l.length<=1048576) (hP:∀r ∈ l,gV r):kl prog 259 [.fn 80] 40 au l (nY l) false:=by
 refine kl.ofRaw (enters_of func259 ai rfl) fun w base v fps hG hown htab hg=>?_
 obtain⟨g,cap,cur,rfl,hb,hgg,hnc,hcm,hcs,d,hdx,hdf,hH⟩:=Er (Pr:=gV) hg h0 hown hP
 have hdl:d.length=l.length:=by rw[<-hdx,length_map]
 letI:Inhabited (Hd au gV w g):=⟨d[0]'J⟩
 have hgs:g < w.heap.size:=(Array.getElem?_eq_some_iff.1 hgg).1
 have hsz:d.toArray.size=l.length:=by rw[size_toArray,hdl]
 have hlt:∀x y:Hd au gV w g,ltOf (fun x y:Hd au gV w g=>bG (aw x.x) (aw y.x)) x y=true ↔ fQ x.x < fQ y.x:=fun x y=>decide_eq_true_iff.trans (Yc x.ok y.ok)
 have hO:SWO (ltOf fun x y:Hd au gV w g=>bG (aw x.x) (aw y.x)):=by
  refine⟨fun x=>?_,fun x y z h1 h2=>?_,fun x y z h1 h2=>?_⟩
  ·rw[Bool.eq_false_iff]; exact fun h=>Rat.lt_irrefl ((hlt x x).1 h)
  ·exact (hlt x z).2 (PR ((hlt x y).1 h1) ((hlt y z).1 h2))
  ·rw[Bool.eq_false_iff] at h1 h2 ⊢
   intro h
   have h3:=not_lt.1 fun k=>h1 ((hlt x y).2 k)
   have h4:=not_lt.1 fun k=>h2 ((hlt y z).2 k)
   exact not_lt.2 (Rat.le_trans h4 h3) ((hlt x z).1 h)
 have hcon:=AnyQ.slices_SortFunc abz 3 Tryz.isAgg40 Tryz.sizeOf40 (Hd.cs (t:=au) (Pr:=gV) (w:=w) (g:=g)) Hd.len Hd.one (fun x y=>bG (aw x.x) (aw y.x)) hO 80 #[] g 0 cap d.toArray w (enters_of func80 ai rfl) (I9 (t:=au) rfl OW hG (htab g rfl)) hH hgs J
 rw[hsz] at hcon
 refine Calls.mono hcon ?_
 rintro en w' ⟨rfl,d',n,os,hperm,hsorted,rfl⟩
 obtain⟨hps,_,hp⟩:=hperm
 have hds:d'.size=l.length:=by rw[hps,hsz]
 have hp2:d'.toList.Perm d:=by
  have e1:d'.extract 0 l.length=d':=by rw[<-hds]; exact Array.extract_size
  have e2:d.toArray.extract 0 l.length=d.toArray:=by rw[<-hsz]; exact Array.extract_size
  rw[e1,e2] at hp
  simpa using hp
 have hmap:d'.toList.map Hd.x=nY l:=by
  have hpm:(d'.toList.map Hd.x).Perm l:=by rw[<-hdx]; exact hp2.map _
  refine List.Perm.eq_of_pairwise (le:=fun x y=>Qp x y=true) ?_ ?_ ?_ (hpm.trans (List.mergeSort_perm _ _).symm)
  ·intro a b ha hb' h1 h2
   exact key_inj (hP a (hpm.mem_iff.1 ha)) (hP b (qN.1 hb')) (Rat.le_antisymm (ir.1 h1) (ir.1 h2))
  ·rw[List.pairwise_iff_getElem]
   intro i j hi hj hij
   have hi':i < d'.size:=by simpa using hi
   have hj':j < d'.size:=by simpa using hj
   have:=hsorted i j (zero_le _) hij J
   rw[getElem!_pos d' j hj',getElem!_pos d' i hi',Bool.eq_false_iff] at this
   rw[getElem_map,getElem_map,ir]
   exact not_lt.1 fun k=>this ((hlt _ _).2 k)
  ·refine List.pairwise_mergeSort ?_ ?_ _
   ·intro a b c h1 h2
    exact ir.2 (Rat.le_trans (ir.1 h1) (ir.1 h2))
   ·intro a b
    rw[or_eq_true,ir,ir]
    exact Rat.le_total
 have hdl2:d'.toList.length=l.length:=by rw[length_toList,hds]
 obtain⟨k1,k2⟩:=AL (base:=base) (n:=n) (os:=os) (d:=d'.toList) hb hgg hcs hcm (le_trans (le_of_eq hdl2) hnc) l.length (le_of_eq hdl2.symm) rfl
 rw[take_of_length_le (le_of_eq hdl2),hmap] at k1
 refine⟨_,rfl,k1,k2,fun b hbm=>?_⟩
 obtain⟨ff,hff,hbf⟩:=mem_flatten.1 hbm
 obtain⟨y,hy,rfl⟩:=mem_map.1 hff
 exact hdf y (hp2.mem_iff.1 hy) b hbf
theorem S8 (l:List DR) (h0:0 < l.length) (hn:l.length<=1048576):WY prog 258 [⟨.slice au,l⟩] 40 au l:=by
 refine R0 bK bA func258 rfl rfl _ ntmps258 _ results258 ah fun hwf=>?_
 refine Nz ?_
 refine kT.CA (by intro e; rw[e] at h0; simp at h0) ?_
 refine Sz ?_
 exact⟨0,1,_,rfl,rfl⟩
theorem Gm (l:List DR) (h0:0 < l.length) (hn:l.length<=1048576) (hP:∀r ∈ l,gV r):Fn prog 190 [⟨.slice au,l⟩] false [⟨.slice au,Co (nY l)⟩]:=by
 have c1:=S8 l h0 hn
 have c2:=T9 l h0 hn hP
 have hl:=EK l
 have c3:=KK (nY l) J J fun r hr=>abM (hP r (qN.1 hr))
 refine fe func190 ntmps190 results190 fun hwf=>?_
 refine Sz ?_
 refine aO.l (c1) ?_
 refine Sz ?_
 refine aO.r (k:=0) (ver:=0) (o:=false) (c2) ?_
 refine Sz ?_
 refine aO.r (k:=0) (ver:=0) (o:=false) (c3) ?_
 all_goals exact Fz
end DW
end Go.Proofs.YtkaclgdhlpphhaaGreat
end
